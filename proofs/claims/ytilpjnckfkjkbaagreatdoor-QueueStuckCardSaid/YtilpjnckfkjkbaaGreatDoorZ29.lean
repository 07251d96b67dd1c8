/- Part 29 of the walks (own work). -/
import Derived.Test.YtilpjnckfkjkbaaGreatDoorZ28
set_option maxRecDepth 100000
set_option maxHeartbeats 4000000
set_option linter.unusedSimpArgs false
set_option linter.unusedVariables false
namespace Go.Dv
open Go.Proofs
attribute [local congr] bind_congr_first cb_congr condA_congr gd_congr br_congr
theorem iv1_len (l:List Nat):(iv1 l).length=l.length:=by unfold iv1; simp
theorem iv1_snoc (l:List Nat) (k:Nat):iv1 (l++[k])=iv1 l++[I (k:Int)]:=by unfold iv1; simp
section
variable {S K:AH} {p mb:Nat} {iv av:AV} {ws:List AV} {mv:Nat->AV} {l:List (Itm × AV)} {A:List (List Nat)} {R:Nat->List Nat}
theorem PlnR.np (h:PlnR S K p mb iv av ws mv l A R) (a i:Nat):blkO (plF iv av ws mv l A R a i).1≠some p:=fun e=>(h.ow.own a i p e).2 (by simp)
theorem PlnR.nm (h:PlnR S K p mb iv av ws mv l A R) (a i:Nat):blkO (plF iv av ws mv l A R a i).1≠some mb:=fun e=>(h.ow.own a i mb e).2 (by simp)
theorem PlnR.item (h:PlnR S K p mb iv av ws mv l A R) {x:Itm} {va:AV} {L:AH} (h4:L[4]? =some (.cells ((l.map xrow).flatten++rowX x va) 34)) (h8:L[8]? =some (.cells (ws++[.nilSlice]) 30)) :
   PlnR S ((killV av (killV iv K)).set p (.cells [.slice (K.length+4) 0 9 (lenOfA iv+1) (lenOfA iv+1) false,.slice (K.length+8) 0 1 (lenOfA av+1) (lenOfA av+1) false] 93)++L) p mb (.slice (K.length+4) 0 9 (lenOfA iv+1) (lenOfA iv+1) false) (.slice (K.length+8) 0 1 (lenOfA av+1) (lenOfA av+1) false) (ws++[.nilSlice]) mv (l++[(x,va)]) (A++[[]]) R:=by
 have hl8:=lt_of_get h8
 have hLs:L=L.take 5++L.drop 5:=(List.take_append_drop 5 L).symm
 have h4':(L.take 5)[4]? =some (.cells ((l.map xrow).flatten++rowX x va) 34):=by rw [List.getElem?_take_of_lt (by omega)]; exact h4
 have h8':(L.drop 5)[3]? =some (.cells (ws++[.nilSlice]) 30):=by rw [List.getElem?_drop]; exact h8
 have hl1:((l.map xrow).flatten++rowX x va).length=(lenOfA iv+1) * 9:=by
   rw [List.length_append,h.oi.lenOf,Nat.add_mul]; rfl
 have hl2:(ws++[AV.nilSlice]).length=(lenOfA av+1) * 1:=by
   rw [List.length_append,h.oa.lenOf,Nat.add_mul]; rfl
 have o1:=h.ow.slot 0 0 (n:=lenOfA iv+1) (es:=9) h4' hl1
 have s1:=sub_slot h.sub h.ow 0 0 (L.take 5)
 have o2:=o1.slot 1 0 (n:=lenOfA av+1) (es:=1) h8' hl2
 have s2:=sub_slot s1 o1 1 0 (L.drop 5)
 have e1:(updF (plF iv av ws mv l A R) 0 0 (.slice (K.length+4) 0 9 (lenOfA iv+1) (lenOfA iv+1) false,9,34,(l.map xrow).flatten++rowX x va) 1 0).1=av:=rfl
 have e0:(plF iv av ws mv l A R 0 0).1=iv:=rfl
 have hk1:(killV iv K++L.take 5).length=K.length+5:=by rw [List.length_append,killV_len,List.length_take]; omega
 have hkk:killV av (killV iv K++L.take 5)++L.drop 5=killV av (killV iv K)++L:=by
   rw [killV_app _ fun i hi=>by rw [killV_len]; exact h.oa.lt hi,List.append_assoc,<-hLs]
 rw [e0] at o1 s1 o2 s2
 rw [e1,hkk] at s2
 rw [e1,hkk,hk1] at o2
 have hpl:p < (killV av (killV iv K)).length:=by rw [killV_len,killV_len]; exact h.pK
 have hml:mb < (killV av (killV iv K)).length:=by rw [killV_len,killV_len]; exact h.mK
 have o3:=o2.same (K':=(killV av (killV iv K)++L).set p (.cells [.slice (K.length+4) 0 9 (lenOfA iv+1) (lenOfA iv+1) false,.slice (K.length+8) 0 1 (lenOfA av+1) (lenOfA av+1) false] 93)) (by rw [List.length_set]; exact Nat.le_refl _) fun b _ hb=>List.getElem?_set_ne fun e=>hb (by rw [<-e]; simp)
 have s3:=s2.setR h.gp (.cells [.slice (K.length+4) 0 9 (lenOfA iv+1) (lenOfA iv+1) false,.slice (K.length+8) 0 1 (lenOfA av+1) (lenOfA av+1) false] 93)
 rw [List.set_append_left _ _ hpl] at o3 s3
 refine { sub:=s3,gp:=h.gp,gm:=h.gm,pm:=h.pm,hp:=?_,hm:=h.hm.keep ?_,lw:=by rw [List.length_append,List.length_append,h.lw]; rfl,ow:=o3.congr fun a i=>?_ }
 · rw [List.getElem?_append_left (by rw [List.length_set]; exact hpl),List.getElem?_set_self hpl]
 · rw [List.getElem?_append_left (by rw [List.length_set]; exact hml),List.getElem?_set_ne h.pm,killV_get (v:=av) (h.nm 1 0),killV_get (v:=iv) (h.nm 0 0)]
 · match a,i with
   | 0,0 =>
     show (_,9,34,((l++[(x,va)]).map xrow).flatten)=(_,9,34,(l.map xrow).flatten++rowX x va)
     rw [List.map_append,List.flatten_append]
     show (_,9,34,_++([xrow (x,va)]).flatten)=_
     rw [List.flatten_cons,List.flatten_nil,List.append_nil]; rfl
   | 1,0=>rfl
   | 2,i =>
     show ((ws++[AV.nilSlice]).getD i .nilSlice,1,3,iv1 ((A++[[]]).getD i []))=(ws.getD i .nilSlice,1,3,iv1 (A.getD i []))
     have g1:(ws++[AV.nilSlice]).getD i .nilSlice=ws.getD i .nilSlice:=by
       rw [gde,gde]
       rcases Nat.lt_or_ge i ws.length with c | c
       · rw [List.getElem?_append_left c]
       · rw [List.getElem?_append_right c,List.getElem?_eq_none c]
         rcases Nat.eq_zero_or_pos (i - ws.length) with z | z
         · rw [z]; rfl
         · rw [List.getElem?_eq_none (by simp; omega)]
     have g2:(A++[[]]).getD i []=A.getD i []:=by
       rw [gde,gde]
       rcases Nat.lt_or_ge i A.length with c | c
       · rw [List.getElem?_append_left c]
       · rw [List.getElem?_append_right c,List.getElem?_eq_none c]
         rcases Nat.eq_zero_or_pos (i - A.length) with z | z
         · rw [z]; rfl
         · rw [List.getElem?_eq_none (by simp; omega)]
     rw [g1,g2]
   | 3,e=>rfl
   | 0,i+1=>rfl
   | 1,i+1=>rfl
   | a+4,i=>rfl
theorem PlnR.row (h:PlnR S K p mb iv av ws mv l A R) {n k s:Nat} (hn:n < A.length) {L:AH} (hs:L[s]? =some (.cells (iv1 (A.getD n [])++[I (k:Int)]) 3)) {w v':AV} (hw:w=ws.getD n .nilSlice) (hv':v'=.slice (K.length+s) 0 1 (lenOfA w+1) (lenOfA w+1) false) :
   ∃ ab,av=.slice ab 0 1 ws.length ws.length false/\(∀ L',wrCells (killV w K++L') ab n [v']=some ((killV w K).set ab (.cells (ws.set n v') 30)++L')) /\
     PlnR S ((killV w K).set ab (.cells (ws.set n v') 30)++L) p mb iv av (ws.set n v') mv l (A.set n (A.getD n []++[k])) R:=by
 have hnw:n < ws.length:=by rw [h.lw]; exact hn
 have ho:=h.oa
 rcases ho with ⟨rfl,e2⟩ | ⟨ab,m,rfl,hab,hm⟩
 · rw [e2] at hnw; simp at hnw
 have hm':ws.length=m:=by omega
 subst hm'
 have habl:=lt_of_get hab
 have hwne:blkO w≠some ab:=fun e=>by
   rw [hw] at e
   exact h.ow.dis 2 n 1 0 (by simp) ab e rfl
 have hkab:(killV w K)[ab]? =some (.cells ws 30):=by rw [killV_get hwne]; exact hab
 have hkl:ab < (killV w K).length:=by rw [killV_len]; exact habl
 have hv'o:v'.one=true:=by rw [hv']; rfl
 refine ⟨ab,rfl,fun L'=>?_,?_⟩
 · rw [wr_objs hkab (by simp; omega) (by simp [hv'o]) L']; rfl
 have hwf:(plF iv (.slice ab 0 1 ws.length ws.length false) ws mv l A R 2 n).1=w:=hw.symm
 have hxl:(iv1 (A.getD n [])++[I (k:Int)]).length=(lenOfA w+1) * 1:=by
   have:=(h.ow2 n).lenOf
   rw [<-hw] at this
   rw [List.length_append,this,Nat.add_mul]; rfl
 have o1:=h.ow.slot 2 n (n:=lenOfA w+1) (es:=1) hs hxl
 have s1:=sub_slot h.sub h.ow 2 n L
 rw [hwf] at o1 s1
 have hset:(killV w K++L).set ab (.cells (ws.set n v') 30)=(killV w K).set ab (.cells (ws.set n v') 30)++L:=List.set_append_left _ _ hkl
 have o2:=o1.upd 1 0 (K':=(killV w K).set ab (.cells (ws.set n v') 30)++L) (e:=(.slice ab 0 1 ws.length ws.length false,1,30,ws.set n v')) (.inr ⟨ab,ws.length,rfl,by rw [<-hset,List.getElem?_set_self (by rw [List.length_append]; omega)],by rw [List.length_set]; omega⟩) (fun b hb=>.inl (by cases hb; rfl)) (by rw [<-hset,List.length_set]; exact Nat.le_refl _) fun b _ hb=>by
   rw [<-hset,List.getElem?_set_ne fun e=>hb (by rw [<-e]; rfl)]
 have s2:=s1.setR (h.ow.own 1 0 ab rfl).1 (.cells (ws.set n v') 30)
 rw [hset] at s2
 have hpl:p < (killV w K).length:=by rw [killV_len]; exact h.pK
 have hml:mb < (killV w K).length:=by rw [killV_len]; exact h.mK
 have hpa:ab≠p:=fun e=>h.np 1 0 (by rw [<-e]; rfl)
 have hma:ab≠mb:=fun e=>h.nm 1 0 (by rw [<-e]; rfl)
 have hwp:blkO w≠some p:=by rw [<-hwf]; exact h.np 2 n
 have hwm:blkO w≠some mb:=by rw [<-hwf]; exact h.nm 2 n
 refine { sub:=s2,gp:=h.gp,gm:=h.gm,pm:=h.pm,hp:=?_,hm:=h.hm.keep ?_,lw:=by rw [List.length_set,List.length_set]; exact h.lw,ow:=o2.congr fun a i=>?_ }
 · rw [List.getElem?_append_left (by rw [List.length_set]; exact hpl),List.getElem?_set_ne hpa,killV_get hwp]; exact h.hp
 · rw [List.getElem?_append_left (by rw [List.length_set]; exact hml),List.getElem?_set_ne hma,killV_get hwm]
 · match a,i with
   | 0,0=>rfl
   | 1,0=>rfl
   | 2,i =>
     show ((ws.set n v').getD i .nilSlice,1,3,iv1 ((A.set n (A.getD n []++[k])).getD i []))=if 2=1/\i=0 then _ else if 2=2/\i=n then _ else (ws.getD i .nilSlice,1,3,iv1 (A.getD i []))
     rw [if_neg (by simp)]
     rw [gde,gde,List.getElem?_set,List.getElem?_set]
     by_cases e:i=n
     · subst e
       have hc:(2=2/\i=i):=⟨rfl,rfl⟩
       rw [if_pos rfl,if_pos hnw,if_pos rfl,if_pos hn,if_pos hc,hv']
       simp only [Option.getD_some,iv1_snoc]
     · have hc:¬(2=2/\i=n):=fun x=>e x.2
       rw [if_neg (Ne.symm e),if_neg (Ne.symm e),if_neg hc,gde,gde]
   | 3,e=>rfl
   | 0,i+1=>rfl
   | 1,i+1=>rfl
   | a+4,i=>rfl
theorem PlnR.recd (h:PlnR S K p mb iv av ws mv l A R) {n k s:Nat} {L:AH} (hs:L[s]? =some (.cells (iv1 (R n)++[I (k:Int)]) 3)) {v':AV} (hv':v'=.slice (K.length+s) 0 1 (lenOfA (mv n)+1) (lenOfA (mv n)+1) false) :
   ∃ o,(∀ L',mapPutA Tryz.prog 131 (.map mb) (I (n:Int)) v' (killV (mv n) K++L')=some ((killV (mv n) K).set mb o++L')) /\
     PlnR S ((killV (mv n) K).set mb o++L) p mb iv av ws (fun e=>if e=n then v' else mv e) l A (fun e=>if e=n then R n++[k] else R e):=by
 have hpl:p < (killV (mv n) K).length:=by rw [killV_len]; exact h.pK
 have hml:mb < (killV (mv n) K).length:=by rw [killV_len]; exact h.mK
 have hwp:blkO (mv n)≠some p:=h.np 3 n
 have hwm:blkO (mv n)≠some mb:=h.nm 3 n
 obtain ⟨o,ho,hM⟩:=(h.hm.keep (K':=killV (mv n) K) (killV_get hwm)).put n v'
 refine ⟨o,ho,?_⟩
 have hxl:(iv1 (R n)++[I (k:Int)]).length=(lenOfA (mv n)+1) * 1:=by
   rw [List.length_append,(h.om n).lenOf,Nat.add_mul]; rfl
 have o1:=h.ow.slot 3 n (n:=lenOfA (mv n)+1) (es:=1) hs hxl
 have s1:=sub_slot h.sub h.ow 3 n L
 have hwf:(plF iv av ws mv l A R 3 n).1=mv n:=rfl
 rw [hwf] at o1 s1
 have hset:(killV (mv n) K++L).set mb o=(killV (mv n) K).set mb o++L:=List.set_append_left _ _ hml
 have o2:=o1.same (K':=(killV (mv n) K).set mb o++L) (by rw [<-hset,List.length_set]; exact Nat.le_refl _) fun b _ hb=>by
   rw [<-hset,List.getElem?_set_ne fun e=>hb (by rw [<-e]; simp)]
 have s2:=s1.setR h.gm o
 rw [hset] at s2
 refine { sub:=s2,gp:=h.gp,gm:=h.gm,pm:=h.pm,hp:=?_,hm:=hM.keep (List.getElem?_append_left (by rw [List.length_set]; exact hml)),lw:=h.lw,ow:=o2.congr fun a i=>?_ }
 · rw [List.getElem?_append_left (by rw [List.length_set]; exact hpl),List.getElem?_set_ne (Ne.symm h.pm),killV_get hwp]; exact h.hp
 · match a,i with
   | 0,0=>rfl
   | 1,0=>rfl
   | 2,i=>rfl
   | 3,e =>
     show ((if e=n then v' else mv e),1,3,iv1 (if e=n then R n++[k] else R e))=if 3=3/\e=n then _ else (mv e,1,3,iv1 (R e))
     by_cases c:e=n
     · subst c
       have hc:(3=3/\e=e):=⟨rfl,rfl⟩
       rw [if_pos rfl,if_pos rfl,if_pos hc,hv',iv1_snoc]
     · have hc:¬(3=3/\e=n):=fun x=>c x.2
       rw [if_neg c,if_neg c,if_neg hc]
   | 0,i+1=>rfl
   | 1,i+1=>rfl
   | a+4,i=>rfl
end
end Go.Dv
namespace Go.Dv
open Go.Proofs
attribute [local congr] bind_congr_first cb_congr condA_congr gd_congr br_congr
theorem bs31k' (s:Option Nat) (cs:List AV) (hc:cs.length=9) (H:AH):buildSliceA Tryz.prog s 31 1 [(0,.agg cs)] H=(put s H (.cells cs 34)).map fun p=>(.slice p.1 0 9 1 1 true,p.2):=by
 rcases cs with _ | ⟨a,_ | ⟨b,_ | ⟨c,_ | ⟨d,_ | ⟨e,_ | ⟨f,_ | ⟨g,_ | ⟨h,_ | ⟨i,_ | ⟨j,l⟩⟩⟩⟩⟩⟩⟩⟩⟩⟩ <;> simp at hc
 kernel_rfl
theorem bs31k (s:Option Nat) (a b c d e f g h i:AV) (H:AH):buildSliceA Tryz.prog s 31 1 [(0,.agg [a,b,c,d,e,f,g,h,i])] H=(put s H (.cells [a,b,c,d,e,f,g,h,i] 34)).map fun p=>(.slice p.1 0 9 1 1 true,p.2):=bs31k' s _ rfl H
theorem bs91k (s:Option Nat) (H:AH):buildSliceA Tryz.prog s 91 1 [(0,.nilSlice)] H=(put s H (.cells [.nilSlice] 30)).map fun p=>(.slice p.1 0 1 1 1 true,p.2):=by kernel_rfl
theorem at91:AppT Tryz.prog 91 (some 91) 30 1:=⟨by kernel_rfl,⟨.nilSlice,by kernel_rfl,by kernel_rfl,by simp [AV.cells]⟩,by kernel_rfl,by kernel_rfl⟩
theorem b30:Nat.ble (Tryz.prog.bytesOf 30) 1000=true:=by kernel_rfl
theorem b3':Nat.ble (Tryz.prog.bytesOf 3) 1000=true:=by kernel_rfl
theorem st91 (H:AH) (i k:Nat) (x:AV):stA Tryz.prog 91 H i k x=if x.cells.length=1 then wrCells H i k x.cells else none:=by kernel_rfl
theorem gs_low {B i k:Nat} {v d:AV} {tm:List AV} (hi:i < B) (hk:B<=k):(tm.set k v).getD i d=tm.getD i d:=by
 rw [gde,gde,List.getElem?_set_ne (by omega)]
theorem put_len {K1:AH} {B:Nat} (h:K1.length=B) (L:AH) (n:Nat) (o:AObj):put (some (B+n)) (K1++L) o=(put (some n) L o).map fun r=>(B+r.1,K1++r.2):=by rw [<-h]; exact put_slot_app K1 L n o
theorem reg42_10 {S K:AH} {p mb:Nat} {iv av:AV} {ws:List AV} {mv:Nat->AV} {l:List (Itm × AV)} {A:List (List Nat)} {R:Nat->List Nat} (h:PlnR S K p mb iv av ws mv l A R) {tm:List AV} {Z:Option (AExit × St)} (hR:EvC Tryz.prog C0 W0 pl42 (atPath [true,true,true,false,true,false,false,true,true,false,false,true,true,false,false,true,true,false,false,true,true,false] c42) (tm,K)=Z) (hlen:tm.length=111) (h3:tm.getD 3 uA=.ptr p 0) {c:Nat} {x:Itm} {va:AV} (h8:tm.getD 8 uA=.ptr c 0) (hc:S[c]? =some (.cells (rowX x va) 34)) (hac:va.cells=[va]) (hao:va.one=true) (hl:l.length<=1000) (hA:A.length<=1000) :
   ∃ tm' K' iv' av',Z=some (.normal,(tm',K'))/\tm'.length=111/\(∀ i,i < 30->tm'.getD i uA=tm.getD i uA)/\PlnR S K' p mb iv' av' (ws++[.nilSlice]) mv (l++[(x,va)]) (A++[[]]) R:=by
 subst hR
 have hrow:∀ L,rdCells (K++L) c 0 9=some (rowX x va):=fun L=>(h.sub.appR L).rd (by unfold rdCells; rw [hc]; rfl)
 have hr0:∀ L,rdCells (K++L) p 0 1=some [iv]:=fun L=>h.rp L 0 rfl
 have hr1:∀ L,rdCells (K++L) p 1 1=some [av]:=fun L=>h.rp L 1 rfl
 have hpk:(killV iv K)[p]? =some (.cells [iv,av] 93):=by rw [killV_get (v:=iv) (h.np 0 0)]; exact h.hp
 have hpk2:(killV av (killV iv K))[p]? =some (.cells [iv,av] 93):=by rw [killV_get (v:=av) (h.np 1 0)]; exact hpk
 have hr1k:∀ L,rdCells (killV iv K++L) p 1 1=some [av]:=fun L=>by rw [obj_rd hpk L]; rfl
 have pk1:=fun L n o=>put_len (killV_len iv K) L n o
 have hoil:=h.oi.lenOf
 have hoal:=h.oa.lenOf
 rw [flat_len (xrow_len l),List.length_map] at hoil
 have hlv:lenOfA iv=l.length:=by omega
 have hla:lenOfA av=A.length:=by rw [<-h.lw]; omega
 have hone:(rowX x va).all AV.one=true:=by
   show (AV.one _ && (AV.one _ && (AV.one _ && (AV.one _ && (AV.one _ && (AV.one _ && (AV.one _ && (AV.one _ && (AV.one _ && true)))))))))=true
   rw [hao]; rfl
 have a1:=fun L=>app_slot at31c (by decide) (K:=K) rfl h.oi (new:=rowX x va) rfl hone (grow_le b34 (by omega)) 4 3 L
 have oa1:Ex (killV iv K) 1 30 av ws:=h.oa.keep fun b hb=>killV_get (v:=iv) fun e=>h.ow.dis 0 0 1 0 (by simp) b e hb
 have a2:=fun L=>app_slot at91 (by decide) (killV_len iv K) oa1 (new:=[.nilSlice]) rfl rfl (grow_le b30 (by omega)) 8 7 L
 have w1:∀ i k e n c x L,wrCells (killV av (killV iv K)++L) p 0 [.slice i k e n c x]=some ((killV av (killV iv K)).set p (.cells [.slice i k e n c x,av] 93)++L):=fun i k e n c x L=>by
   rw [wr_objs hpk2 (by simp) rfl L]; rfl
 have w2:∀ v i k e n c x L,wrCells ((killV av (killV iv K)).set p (.cells [v,av] 93)++L) p 1 [.slice i k e n c x]=some ((killV av (killV iv K)).set p (.cells [v,.slice i k e n c x] 93)++L):=fun v i k e n c x L=>by
   rw [wr_objs (List.getElem?_set_self (lt_of_get hpk2)) (by simp) rfl L,List.set_set]; rfl
 simp only [rowX] at hrow a1
 simp -implicitDefEqProofs only [c42,Tryz.f42,aP,hlen,h3,h8,hrow,hr0,hr1,hr1k,pk1,a1,a2,w1,w2,bs31k,bs91k,st31,st91,fa93_0,fa93_1,ld91,↓hac,↓hao,↓EvC_plan plr42_10,p42_10,List.any_toArray',List.any_toArray,List.any_cons,List.any_nil,allocates,List.size_toArray,List.replicate_succ,List.replicate_zero,r5,↓evLd,nck,↓cbT,↓cbF,↓evDn,evUp,eu,sevalprocAttr,↓rp_done,↓rp_take,↓rp_rd,↓rp_all,↓rp_join,↓ra_nil,↓ra_first,↓ra_next,↓quietO_none,↓quietO_guardB,↓readO_none,↓q_move,↓q_assign,↓q_field,↓q_fieldAddr,↓q_indexAddr,↓q_nilCheck,↓q_pickB,↓q_extract,put_slot,put_slot_app,List.length_append,Nat.add_assoc,stBeq_self,set_order,keepV_eq]
 refine ⟨_,_,.slice (K.length+4) 0 9 (lenOfA iv+1) (lenOfA iv+1) false,.slice (K.length+8) 0 1 (lenOfA av+1) (lenOfA av+1) false,rfl,by simp only [ls,hlen],fun i hi=>by simp only [gs_low hi,Nat.reduceLeDiff],?_⟩
 exact h.item rfl rfl
theorem reg42_12 {S K:AH} {p mb:Nat} {iv av:AV} {ws:List AV} {mv:Nat->AV} {l:List (Itm × AV)} {A:List (List Nat)} {R:Nat->List Nat} (h:PlnR S K p mb iv av ws mv l A R) {tm:List AV} {Z:Option (AExit × St)} (hR:EvC Tryz.prog C0 W0 pl42 (atPath [true,true,true,false,true,false,false,true,true,false,false,true,true,false,false,true,true,false,false,true,true,true,false,true,false] c42) (tm,K)=Z) (hlen:tm.length=111) (h3:tm.getD 3 uA=.ptr p 0) {n:Nat} (h9:tm.getD 9 uA=I ((n+1:Nat):Int)) (hN:A.length<=1000) (hn:n < A.length) (hl:(A.getD n []).length<=1000) :
   ∃ tm' K' ws',Z=some (.normal,(tm',K'))/\tm'.length=111/\(∀ i,i < 30->tm'.getD i uA=tm.getD i uA)/\PlnR S K' p mb iv av ws' mv l (A.set n (A.getD n []++[(n+1)])) R:=by
 subst hR
 obtain ⟨w,hw⟩:∃ w,w=ws.getD n .nilSlice:=⟨_,rfl⟩
 obtain ⟨ab,hav,hwr,hP⟩:=h.row (k:=(n+1:Nat)) (s:=12) hn (L:=[.fresh,.fresh,.fresh,.fresh,.fresh,.fresh,.fresh,.fresh,.fresh,.fresh,.fresh,.cells [I ((n+1:Nat):Int)] 3,.cells (iv1 (A.getD n [])++[I ((n+1:Nat):Int)]) 3,.fresh,.fresh]) rfl hw rfl
 subst hav
 have hr1:∀ L,rdCells (K++L) p 1 1=some [.slice ab 0 1 ws.length ws.length false]:=fun L=>h.rp L 1 rfl
 have hwp:blkO w≠some p:=by rw [hw]; exact h.np 2 n
 have hpk:(killV w K)[p]? =some (.cells [iv,.slice ab 0 1 ws.length ws.length false] 93):=by rw [killV_get hwp]; exact h.hp
 have hr1k:∀ L,rdCells (killV w K++L) p 1 1=some [.slice ab 0 1 ws.length ws.length false]:=fun L=>by rw [obj_rd hpk L]; rfl
 have pk1:=fun L n o=>put_len (killV_len w K) L n o
 have how:=h.ow2 n
 rw [<-hw] at how
 have hwl:=how.lenOf
 rw [iv1_len] at hwl
 have a1:=fun L=>app_slot at30 (by decide) (K:=K) rfl how (new:=[I ((n+1:Nat):Int)]) rfl rfl (grow_le b3' (by omega)) 12 11 L
 have hnw:n < ws.length:=by rw [h.lw]; exact hn
 have hab:K[ab]? =some (.cells ws 30):=by
   rcases h.oa with ⟨e,_⟩ | ⟨i,m,e,hi,_⟩
   · cases e
   · cases e; exact hi
 have hra:∀ L,rdCells (K++L) ab n 1=some [w]:=fun L=>by
   rw [obj_rd hab L,if_pos (by omega),List.drop_eq_getElem_cons hnw,List.take_succ_cons,List.take_zero,hw,getD_at hnw]
 have hia:∀ kk,indexAddrA Tryz.prog 91 (.slice ab 0 1 ws.length ws.length false) (.int kk (n:Int))=some (.ptr ab n):=fun kk=>by
   rw [ia91,if_pos ⟨by omega,by omega,rfl⟩,Int.toNat_natCast,Nat.mul_one,Nat.zero_add]
 have hdec:IntKind.i64.wrap (((n+1:Nat):Int) - 1)=(n:Int):=by rw [show (((n+1:Nat):Int) - 1)=(n:Int) by omega]; exact IntWalk.i64_in _ (by omega)
 simp -implicitDefEqProofs only [c42,Tryz.f42,aP,hlen,h3,h9,hdec,hr1,hr1k,pk1,a1,hwr,hra,hia,bs30s,st30,fa93_0,fa93_1,ld91,↓EvC_plan plr42_12,p42_12,List.any_toArray',List.any_toArray,List.any_cons,List.any_nil,allocates,List.size_toArray,List.replicate_succ,List.replicate_zero,r5,↓evLd,nck,↓cbT,↓cbF,↓evDn,evUp,eu,sevalprocAttr,↓rp_done,↓rp_take,↓rp_rd,↓rp_all,↓rp_join,↓ra_nil,↓ra_first,↓ra_next,↓quietO_none,↓quietO_guardB,↓readO_none,↓q_move,↓q_assign,↓q_field,↓q_fieldAddr,↓q_indexAddr,↓q_nilCheck,↓q_pickB,↓q_extract,put_slot,put_slot_app,List.length_append,Nat.add_assoc,stBeq_self,set_order,keepV_eq]
 exact ⟨_,_,_,rfl,by simp only [ls,hlen],fun i hi=>by simp only [gs_low hi,Nat.reduceLeDiff],hP⟩
theorem reg42_22 {S K:AH} {p mb:Nat} {iv av:AV} {ws:List AV} {mv:Nat->AV} {l:List (Itm × AV)} {A:List (List Nat)} {R:Nat->List Nat} (h:PlnR S K p mb iv av ws mv l A R) {tm:List AV} {Z:Option (AExit × St)} (hR:EvC Tryz.prog C0 W0 pl42 (atPath [true,true,true,true,false,true,false,false,true,true,false,false,true,true,false,true] c42) (tm,K)=Z) (hlen:tm.length=111) (h3:tm.getD 3 uA=.ptr p 0) {n j:Nat} (h10:tm.getD 10 uA=I (j:Int)) (h12:tm.getD 12 uA=I (n:Int)) (hn:n < A.length) (hl:(A.getD n []).length<=1000) :
   ∃ tm' K' ws',Z=some (.normal,(tm',K'))/\tm'.length=111/\(∀ i,i < 97->tm'.getD i uA=tm.getD i uA)/\PlnR S K' p mb iv av ws' mv l (A.set n (A.getD n []++[j])) R:=by
 subst hR
 obtain ⟨w,hw⟩:∃ w,w=ws.getD n .nilSlice:=⟨_,rfl⟩
 obtain ⟨ab,hav,hwr,hP⟩:=h.row (k:=(j:Nat)) (s:=10) hn (L:=[.fresh,.fresh,.fresh,.fresh,.fresh,.fresh,.fresh,.fresh,.fresh,.cells [I ((j:Nat):Int)] 3,.cells (iv1 (A.getD n [])++[I ((j:Nat):Int)]) 3,.fresh,.fresh]) rfl hw rfl
 subst hav
 have hr1:∀ L,rdCells (K++L) p 1 1=some [.slice ab 0 1 ws.length ws.length false]:=fun L=>h.rp L 1 rfl
 have hwp:blkO w≠some p:=by rw [hw]; exact h.np 2 n
 have hpk:(killV w K)[p]? =some (.cells [iv,.slice ab 0 1 ws.length ws.length false] 93):=by rw [killV_get hwp]; exact h.hp
 have hr1k:∀ L,rdCells (killV w K++L) p 1 1=some [.slice ab 0 1 ws.length ws.length false]:=fun L=>by rw [obj_rd hpk L]; rfl
 have pk1:=fun L n o=>put_len (killV_len w K) L n o
 have how:=h.ow2 n
 rw [<-hw] at how
 have hwl:=how.lenOf
 rw [iv1_len] at hwl
 have a1:=fun L=>app_slot at30 (by decide) (K:=K) rfl how (new:=[I ((j:Nat):Int)]) rfl rfl (grow_le b3' (by omega)) 10 9 L
 have hnw:n < ws.length:=by rw [h.lw]; exact hn
 have hab:K[ab]? =some (.cells ws 30):=by
   rcases h.oa with ⟨e,_⟩ | ⟨i,m,e,hi,_⟩
   · cases e
   · cases e; exact hi
 have hra:∀ L,rdCells (K++L) ab n 1=some [w]:=fun L=>by
   rw [obj_rd hab L,if_pos (by omega),List.drop_eq_getElem_cons hnw,List.take_succ_cons,List.take_zero,hw,getD_at hnw]
 have hia:∀ kk,indexAddrA Tryz.prog 91 (.slice ab 0 1 ws.length ws.length false) (.int kk (n:Int))=some (.ptr ab n):=fun kk=>by
   rw [ia91,if_pos ⟨by omega,by omega,rfl⟩,Int.toNat_natCast,Nat.mul_one,Nat.zero_add]
 simp -implicitDefEqProofs only [c42,Tryz.f42,aP,hlen,h3,h10,h12,hr1,hr1k,pk1,a1,hwr,hra,hia,bs30s,st30,fa93_0,fa93_1,ld91,↓EvC_plan plr42_22,p42_22,List.any_toArray',List.any_toArray,List.any_cons,List.any_nil,allocates,List.size_toArray,List.replicate_succ,List.replicate_zero,r5,↓evLd,nck,↓cbT,↓cbF,↓evDn,evUp,eu,sevalprocAttr,↓rp_done,↓rp_take,↓rp_rd,↓rp_all,↓rp_join,↓ra_nil,↓ra_first,↓ra_next,↓quietO_none,↓quietO_guardB,↓readO_none,↓q_move,↓q_assign,↓q_field,↓q_fieldAddr,↓q_indexAddr,↓q_nilCheck,↓q_pickB,↓q_extract,put_slot,put_slot_app,List.length_append,Nat.add_assoc,stBeq_self,set_order,keepV_eq]
 exact ⟨_,_,_,rfl,by simp only [ls,hlen],fun i hi=>by simp only [gs_low hi,Nat.reduceLeDiff],hP⟩
theorem reg42_14 {S K:AH} {p mb:Nat} {iv av:AV} {ws:List AV} {mv:Nat->AV} {l:List (Itm × AV)} {A:List (List Nat)} {R:Nat->List Nat} (h:PlnR S K p mb iv av ws mv l A R) {tm:List AV} {Z:Option (AExit × St)} (hR:EvC Tryz.prog C0 W0 pl42 (atPath [true,true,true,false,true,false,false,true,true,false,false,true,true,false,false,true,true,false,false,true,true,true,true,true,false] c42) (tm,K)=Z) (hlen:tm.length=111) (h4:tm.getD 4 uA=.map mb) {c:Nat} {x:Itm} {va:AV} (h8:tm.getD 8 uA=.ptr c 0) (hc:S[c]? =some (.cells (rowX x va) 34)) {e j:Nat} (he:x.ev=(e:Int)) (h9:tm.getD 9 uA=I (j:Int)) (hl:(R e).length<=1000) :
   ∃ tm' K' mv',Z=some (.normal,(tm',K'))/\tm'.length=111/\(∀ i,i < 30->tm'.getD i uA=tm.getD i uA)/\PlnR S K' p mb iv av ws mv' l A (fun x=>if x=e then R e++[j] else R x):=by
 subst hR
 have hc6:∀ G,Sub S G->∀ L,rdCells (G++L) c 6 1=some [I (e:Int)]:=fun G hG L=>by
   refine (hG.appR L).rd ?_
   unfold rdCells; rw [hc]
   show some [I x.ev]=_
   rw [he]
 obtain ⟨o,hmp,hP⟩:=h.recd (n:=e) (k:=j) (s:=9) (L:=[.fresh,.fresh,.fresh,.fresh,.fresh,.fresh,.fresh,.fresh,.cells [I (j:Int)] 3,.cells (iv1 (R e)++[I (j:Int)]) 3,.fresh]) rfl rfl
 have s1:=sub_slot h.sub h.ow 3 e []
 rw [List.append_nil] at s1
 have hr6:=hc6 K h.sub
 have hr6k:=hc6 (killV (mv e) K) s1
 have pk1:=fun L n o=>put_len (killV_len (mv e) K) L n o
 have hlk:=fun L=>h.hm.get e L
 have how:=h.om e
 have hwl:=how.lenOf
 rw [iv1_len] at hwl
 have a1:=fun L=>app_slot at30 (by decide) (K:=K) rfl how (new:=[I (j:Int)]) rfl rfl (grow_le b3' (by omega)) 9 8 L
 generalize hv:AV.slice (K.length+9) 0 1 (lenOfA (mv e)+1) (lenOfA (mv e)+1) false=v' at *
 simp -implicitDefEqProofs only [c42,Tryz.f42,aP,hlen,h4,h8,h9,hr6,hr6k,pk1,a1,hmp,hlk,bs30s,↓EvC_plan plr42_14,p42_14,List.any_toArray',List.any_toArray,List.any_cons,List.any_nil,allocates,List.size_toArray,List.replicate_succ,List.replicate_zero,r5,↓evLd,nck,↓cbT,↓cbF,↓evDn,evUp,eu,sevalprocAttr,↓rp_done,↓rp_take,↓rp_rd,↓rp_all,↓rp_join,↓ra_nil,↓ra_first,↓ra_next,↓quietO_none,↓quietO_guardB,↓readO_none,↓q_move,↓q_assign,↓q_field,↓q_fieldAddr,↓q_indexAddr,↓q_nilCheck,↓q_pickB,↓q_extract,put_slot,put_slot_app,List.length_append,Nat.add_assoc,stBeq_self,set_order,keepV_eq]
 exact ⟨_,_,_,rfl,by simp only [ls,hlen],fun i hi=>by simp only [gs_low hi,Nat.reduceLeDiff],hP⟩
end Go.Dv
namespace Go.Dv
open Go.Proofs
attribute [local congr] bind_congr_first cb_congr condA_congr gd_congr br_congr
open Qu
def A1 (S:Streams) (c:Nat):List (List Nat):=(List.range c).map fun n=>if n+1 < c then nxt S n else []
def R1 (S:Streams) (c:Nat) (e:Nat):List Nat:=(List.range c).filter fun n=>((S.flatten[n]?).map fun x=>isRecB x (e:Int)).getD false
def A2 (S:Streams) (j:Nat):List (List Nat):=(List.range S.flatten.length).map (aftTo S j)
theorem A1_len (S:Streams) (c:Nat):(A1 S c).length=c:=by unfold A1; simp
theorem A2_len (S:Streams) (j:Nat):(A2 S j).length=S.flatten.length:=by unfold A2; simp
theorem A1_get (S:Streams) {c n:Nat} (h:n < c):(A1 S c)[n]? =some (if n+1 < c then nxt S n else []):=by
 unfold A1; rw [List.getElem?_map,List.getElem?_range h]; rfl
theorem item_prev {S:Streams} {s k:Nat} {x:Qu.Item} (h:item? S s (k+1)=some x):∃ y,item? S s k=some y:=by
 unfold item? at h ⊢
 cases hs:S[s]? with
 | none=>rw [hs] at h; cases h
 | some l =>
   rw [hs] at h
   simp only [Option.bind_some] at h ⊢
   exact ⟨_,List.getElem?_eq_getElem (by have:=lt_of_get h; omega)⟩
theorem nxt_at {S:Streams} {s k:Nat} {x:Qu.Item} (h:item? S s k=some x):nxt S (off S s+k)=if k+1 < (S.getD s []).length then [off S s+k+1] else []:=by
 unfold nxt; rw [places_get h]
theorem nxt_lt {S:Streams} {n m:Nat} (h:m∈nxt S n):m=n+1/\m < S.flatten.length/\∃ s k x,item? S s (k+1)=some x/\off S s+k=n:=by
 unfold nxt at h
 cases hp:(places S)[n]? with
 | none=>rw [hp] at h; simp at h
 | some p =>
   rw [hp] at h
   simp only at h
   have hn:n < S.flatten.length:=by rw [<-places_len]; exact lt_of_get hp
   obtain ⟨q,y,h1,h2,h3,h4⟩:=flat_spec hn
   rw [hp] at h1
   cases h1
   split at h
   · rename_i hc
     rw [List.mem_singleton] at h
     have hs:p.1 < S.length:=(item_lt h2).1
     obtain ⟨z,hz⟩:∃ z,item? S p.1 (p.2+1)=some z:=by
       unfold item?
       rw [gde,List.getElem?_eq_getElem hs] at hc
       rw [List.getElem?_eq_getElem hs,Option.bind_some]
       exact ⟨_,List.getElem?_eq_getElem hc⟩
     have:=flat_at S p.1 (p.2+1) z hz
     refine ⟨h,?_,p.1,p.2,z,hz,h4.symm⟩
     have:=lt_of_get this
     omega
   · simp at h
theorem nxt_none {S:Streams} {s:Nat} {x:Qu.Item} (h:item? S s 0=some x) {n:Nat} (hn:n+1=off S s):nxt S n=[]:=by
 cases hx:nxt S n with
 | nil=>rfl
 | cons m l =>
   obtain ⟨h1,_,s',k,z,hz,hoff⟩:=nxt_lt (S:=S) (n:=n) (m:=m) (by rw [hx]; simp)
   have:=(off_inj hz h (by omega)).2
   omega
theorem A1_step0 {S:Streams} {s:Nat} {x:Qu.Item} (h:item? S s 0=some x):A1 S (off S s+1)=A1 S (off S s)++[[]]:=by
 refine List.ext_getElem? fun n=>?_
 rcases Nat.lt_or_ge n (off S s) with c | c
 · rw [List.getElem?_append_left (by rw [A1_len]; exact c),A1_get S (by omega),A1_get S c,if_pos (by omega)]
   rcases Nat.lt_or_ge (n+1) (off S s) with d | d
   · rw [if_pos d]
   · rw [if_neg (by omega),nxt_none h (by omega)]
 · rw [List.getElem?_append_right (by rw [A1_len]; exact c),A1_len]
   rcases Nat.eq_or_lt_of_le c with d | d
   · subst d
     rw [A1_get S (by omega),if_neg (by omega),Nat.sub_self]; rfl
   · rw [List.getElem?_eq_none (by rw [A1_len]; omega),List.getElem?_eq_none (by simp; omega)]
theorem A1_last (S:Streams) (c:Nat):(A1 S (c+1)++[[]]).getD c []=[]:=by
 rw [gde,List.getElem?_append_left (by rw [A1_len]; omega),A1_get S (by omega),if_neg (by omega)]; rfl
theorem A1_stepS {S:Streams} {s k:Nat} {x:Qu.Item} (h:item? S s (k+1)=some x):A1 S (off S s+(k+1)+1)=(A1 S (off S s+(k+1))++[[]]).set (off S s+k) ((A1 S (off S s+(k+1))++[[]]).getD (off S s+k) []++[off S s+k+1]):=by
 obtain ⟨y,hy⟩:=item_prev h
 have hkl:=(item_lt h).2
 rw [show off S s+(k+1)=(off S s+k)+1 by omega,A1_last,List.nil_append]
 have hnx:=nxt_at hy
 rw [if_pos hkl] at hnx
 generalize off S s+k=c at *
 refine List.ext_getElem? fun n=>?_
 rw [List.getElem?_set]
 by_cases e:c=n
 · subst e
   rw [if_pos rfl,A1_get S (by omega),if_pos (by omega),if_pos (by rw [List.length_append,A1_len]; omega),hnx]
 · rw [if_neg e]
   rcases Nat.lt_or_ge n (c+1) with d | d
   · rw [List.getElem?_append_left (by rw [A1_len]; exact d),A1_get S (by omega),A1_get S d,if_pos (by omega),if_pos (by omega)]
   · rw [List.getElem?_append_right (by rw [A1_len]; exact d),A1_len]
     rcases Nat.eq_or_lt_of_le d with d | d
     · subst d
       rw [A1_get S (by omega),if_neg (by omega),Nat.sub_self]; rfl
     · rw [List.getElem?_eq_none (by rw [A1_len]; omega),List.getElem?_eq_none (by simp; omega)]
theorem R1_step {S:Streams} {s k:Nat} {x:Qu.Item} (h:item? S s k=some x) (e:Nat):R1 S (off S s+k+1) e=if x.kind=3/\x.event=(e:Int) then R1 S (off S s+k) e++[off S s+k] else R1 S (off S s+k) e:=by
 unfold R1
 rw [List.range_succ,List.filter_append]
 simp only [List.filter,flat_at S s k x h,Option.map_some,Option.getD_some,isRecB]
 by_cases c:x.kind=3/\x.event=(e:Int)
 · rw [if_pos c,c.1,c.2]; simp
 · rw [if_neg c]
   have:(x.kind == 3 && x.event == (e:Int))=false:=by
     rw [Bool.and_eq_false_iff]
     rcases Decidable.em (x.kind=3) with h1 | h1
     · right; rw [beq_eq_false_iff_ne]; exact fun h2=>c ⟨h1,h2⟩
     · left; rw [beq_eq_false_iff_ne]; exact h1
   rw [this]; simp
theorem R1_recs (S:Streams) (e:Nat):R1 S S.flatten.length e=recs S (e:Int):=rfl
theorem R1_le (S:Streams) (c e:Nat):(R1 S c e).length<=c:=by
 unfold R1
 have:=List.length_filter_le (fun n=>((S.flatten[n]?).map fun x=>isRecB x (e:Int)).getD false) (List.range c)
 rwa [List.length_range] at this
theorem A1_end (S:Streams):A1 S S.flatten.length=A2 S 0:=by
 unfold A1 A2
 refine List.map_congr_left fun n hn=>?_
 rw [List.mem_range] at hn
 unfold aftTo
 rw [List.range_zero,List.filter_nil,List.append_nil]
 split
 · rfl
 · rename_i hc
   cases hx:nxt S n with
   | nil=>rfl
   | cons m l =>
     obtain ⟨h1,h2,_⟩:=nxt_lt (S:=S) (n:=n) (m:=m) (by rw [hx]; simp)
     omega
theorem A2_end (S:Streams):A2 S S.flatten.length=aft S:=rfl
theorem A2_getD (S:Streams) (j:Nat) {n:Nat} (hn:n < S.flatten.length):(A2 S j).getD n []=aftTo S j n:=by
 unfold A2
 rw [gde,List.getElem?_map,List.getElem?_range hn]; rfl
theorem aft_succ (S:Streams) (j n:Nat):aftTo S (j+1) n=aftTo S j n++if waits S n j then [j] else []:=by
 unfold aftTo
 rw [List.range_succ,List.filter_append,List.append_assoc]
 congr 2
 cases h:waits S n j <;> simp [List.filter,h]
theorem A2_hit {S:Streams} {j n:Nat} {y:Qu.Item} (hy:S.flatten[j]? =some y) (h4:y.kind=4) (hr:recs S y.event=[n]):n < S.flatten.length/\A2 S (j+1)=(A2 S j).set n ((A2 S j).getD n []++[j]):=by
 have hn:n < S.flatten.length:=by
   have:n∈recs S y.event:=by rw [hr]; simp
   unfold recs at this
   exact List.mem_range.1 (List.mem_filter.1 this).1
 refine ⟨hn,?_⟩
 rw [A2_getD S j hn]
 unfold A2
 refine List.ext_getElem? fun m=>?_
 rw [List.getElem?_map,List.getElem?_set]
 have hw:∀ m,waits S m j=decide (m=n):=fun m=>by
   unfold waits
   rw [hy]
   simp only [h4,hr]
   by_cases e:m=n
   · subst e; simp
   · simp [e,Ne.symm e]
 by_cases e:n=m
 · subst e
   rw [if_pos rfl,if_pos (by simp; simpa using hn),List.getElem?_range hn,Option.map_some,aft_succ,hw n]; simp
 · rw [if_neg e,List.getElem?_map]
   rcases Nat.lt_or_ge m S.flatten.length with c | c
   · rw [List.getElem?_range c,Option.map_some,Option.map_some,aft_succ,hw m]
     simp [Ne.symm e]
   · rw [List.getElem?_eq_none (by simpa using c)]; rfl
theorem A2_miss {S:Streams} {j:Nat} {y:Qu.Item} (hy:S.flatten[j]? =some y) (h:¬(y.kind=4/\(recs S y.event).length=1)):A2 S (j+1)=A2 S j:=by
 unfold A2
 refine List.map_congr_left fun m _=>?_
 rw [aft_succ]
 have:waits S m j=false:=by
   unfold waits
   rw [hy]
   simp only
   rw [Bool.and_eq_false_iff]
   rcases Decidable.em (y.kind=4) with h1 | h1
   · right
     rw [beq_eq_false_iff_ne]
     exact fun h2=>h ⟨h1,by rw [h2]; rfl⟩
   · left; rw [beq_eq_false_iff_ne]; exact h1
 rw [this]; simp
theorem aftTo_le (S:Streams) (j n:Nat):(aftTo S j n).length<=j+1:=by
 unfold aftTo
 rw [List.length_append]
 have h1:(nxt S n).length<=1:=by
   unfold nxt
   cases (places S)[n]? with
   | none=>simp
   | some p=>simp only; split <;> simp
 have h2:=List.length_filter_le (waits S n) (List.range j)
 rw [List.length_range] at h2
 omega
theorem ItmsR.atS {S0 K:AH} {xs:List Itm} {v:AV} (h:ItmsR S0 xs v) (hs:Sub S0 K) {j:Nat} (hj:j < xs.length):∃ i k w,(∀ kk,indexAddrA Tryz.prog 31 v (.int kk (j:Int))=some (.ptr i k))/\(∀ L,rdCells (K++L) i k 9=some (rowX (itmAt xs j) w))/\SlS 32 1 S0 w ((itmAt xs j).args.map row1):=by
 obtain ⟨i,k,w,h1,h2,h3⟩:=h.at (Agree.refl S0) hj
 have:=h2 []
 rw [List.append_nil] at this
 exact ⟨i,k,w,h1,fun L=>(hs.appR L).rd this,h3⟩
theorem StrsR.atS {S0 K:AH} {ss:List (List Itm)} {v:AV} (h:StrsR S0 ss v) (hs:Sub S0 K) {j:Nat} (hj:j < ss.length):∃ i k w,(∀ kk,indexAddrA Tryz.prog 25 v (.int kk (j:Int))=some (.ptr i k))/\(∀ L,rdCells (K++L) i k 1=some [w])/\ItmsR S0 (strAt ss j) w:=by
 obtain ⟨i,k,w,h1,h2,h3⟩:=h.at (Agree.refl S0) hj
 have:=h2 []
 rw [List.append_nil] at this
 exact ⟨i,k,w,h1,fun L=>(hs.appR L).rd this,h3⟩
theorem qS_flat (ss:List (List Itm)):(qS ss).flatten=ss.flatten.map qi:=by unfold qS; rw [List.map_flatten]
theorem take_flat {ss:List (List Itm)} {s k:Nat} (hk:k < (strAt ss s).length):ss.flatten.take (off (qS ss) s+k+1)=ss.flatten.take (off (qS ss) s+k)++[itmAt (strAt ss s) k]:=by
 have h:=flat_at (qS ss) s k _ (item_qS hk)
 rw [qS_flat,List.getElem?_map] at h
 obtain ⟨y,hy,hq⟩:=Option.map_eq_some_iff.1 h
 have:y=itmAt (strAt ss s) k:=by
   generalize itmAt (strAt ss s) k=z at hq
   obtain ⟨⟩:=y
   obtain ⟨⟩:=z
   simp only [qi,Qu.Item.mk.injEq] at hq
   obtain ⟨rfl,rfl,rfl,rfl,rfl,rfl,rfl,rfl,rfl⟩:=hq
   rfl
 subst this
 rw [List.take_add_one,hy]; rfl
end Go.Dv
