/- Part 29 of the walks (own work). -/
import Derived.Test.YtilpjnckfkjkbaaGreatDoorT28
open Bool renaming false_eq_true→bE
open Int renaming natCast_nonneg→vh,toNat_natCast→cw
open List renaming append_assoc→aG,append_nil→af,drop_eq_getElem_cons→gW,drop_take→rX,drop_zero→gA,filter→E8,filter_append→mU,flatten_append→ez,getElem?_append_left→aw,getElem?_append_right→al,getElem?_eq_getElem→aj,getElem?_map→aM,getElem?_replicate→kC,getElem?_set_self→bH,length→gJ,length_append→ai,length_cons→cF,length_map→ar,length_nil→gC,length_set→aq,length_singleton→eI,length_take→d4,map_append→eg,map_cons→gI,mem_append→cz,mem_singleton→bF,take_add_one→eH,take_append→vX,take_length→gH,take_of_length_le→bq,take_take→rB
open Nat renaming add_zero→oq,eq_or_lt_of_le→ky,le_refl→ax,le_trans→ba,lt_of_lt_of_le→bu,lt_or_ge→aX,mul_le_mul_right→mf,zero_le→cX
open Option renaming bind_some→aA,map_some→cE
open Option.some renaming inj→aE
open Go.Proofs.Tryz renaming prog→aa
set_option maxRecDepth 100000
set_option maxHeartbeats 4000000
set_option linter.unusedSimpArgs false
set_option linter.unusedVariables false
namespace Go.Dv
open Go.Proofs
attribute [local congr] aF bC aY bB bD
theorem YU {H:AH} {x:Itm} {va:AV} (hac:va.cells=[va]) (hao:va.one=true) (L:AH):Ev aa C0 W0 47 [.agg (aL x va)] (H++L)=some (.bool (eqB x.kind 0),H++(L++[.cells (aL x va) 34])):=by
 obtain ⟨tm,ht,g0,g1⟩:=tm1 (.agg (aL x va)) 6 (by decide)
 rw [abD,ht]
 simp -implicitDefEqProofs only [c47,Tryz.f47,aP,g0,g1,aL,↓hac,↓hao,r5,↓az,nck,↓cbT,↓cbF,↓ao,an,eu,sevalprocAttr]
def fz (xs:List Itm):Nat->Nat->Nat
 | 0,j=>j
 | d+1,j=>if eqB (bz xs j).kind 0 then j else fz xs d (j+1)
theorem Bd (xs:List Itm):∀ d j,j+d=xs.length->j<=fz xs d j/\fz xs d j<=xs.length/\(∀ i,j<=i->i < fz xs d j->eqB (bz xs i).kind 0=false)/\(fz xs d j < xs.length->eqB (bz xs (fz xs d j)).kind 0=true)
 | 0,j,h=>⟨ax _,by simp only [fz]; omega,fun i h1 h2=>by simp only [fz] at h2; omega,fun h2=>by simp only [fz] at h2; omega⟩
 | d+1,j,h=>by
   simp only [fz]
   cases hk:eqB (bz xs j).kind 0 with
   | true=>exact ⟨ax _,by simp; omega,fun i h1 h2=>by simp at h2; omega,fun _=>by simpa using hk⟩
   | false =>
     obtain ⟨h1,h2,h3,h4⟩:=Bd xs d (j+1) (by omega)
     simp only [bE,if_false]
     refine ⟨by omega,h2,fun i a b=>?_,h4⟩
     rcases ky a with e | e
     · rw [<-e]; exact hk
     · exact h3 i e b
theorem Xz {G:AH} {xs:List Itm} {w:AV} (hx:dY G xs w) (hN:xs.length < 2 ^ 50):∀ (d j:Nat) (tm:List AV) (K:AH),j+d=xs.length->au G K->tm.length=19->tm.getD 0 uA=w->tm.getD 1 uA=.func (.func 47) [] []->tm.getD 7 uA=I xs.length->tm.getD 8 uA=I (j:Int) ->
   (fz xs d j=xs.length->∃ X K1,EvC aa C0 W0 plN rM (tm,K)=some (.exit 0,(X,K1))/\X.length=19/\au G K1)/\(fz xs d j < xs.length->∃ Y K1,EvC aa C0 W0 plN rM (tm,K)=some (.ret,(Y,K1))/\Y.length=19/\Y.getD 4 uA=I (fz xs d j:Nat)/\au G K1):=by
 intro d
 induction d with
 | zero =>
   intro j tm K hj hA hlen h0 h1 h7 h8
   have hlt:ltB (j:Int) (xs.length:Nat)=false:=cH (by omega)
   refine ⟨fun _=>?_,fun h=>by simp only [fz] at h; omega⟩
   rw [EG]
   simp -implicitDefEqProofs only [C2,Tryz.f76,aP,hlen,h0,h1,h7,h8,hlt,↓cbT,↓cbF,↓ao,an,eu,sevalprocAttr]
   exact ⟨_,K,rfl,by simp only [ls,hlen],hA⟩
 | succ d ih =>
   intro j tm K hj hA hlen h0 h1 h7 h8
   have hjN:j < xs.length:=by omega
   have hlt:ltB (j:Int) (xs.length:Nat)=true:=cD (by omega)
   have hw:=cp (j:=j) (by omega)
   obtain ⟨i,k,va,hix,hrd,ha⟩:=hx.at hA hjN
   have hac:=ha.cells
   have hao:=ha.one
   have h47:=fun L=>YU (H:=K) (x:=bz xs j) hac hao L
   simp only [aL] at hrd h47
   simp only [fz]
   cases hk:eqB (bz xs j).kind 0 with
   | true =>
     simp only [if_true]
     refine ⟨fun h=>absurd h (by omega),fun _=>?_⟩
     rw [EG]
     rw [<-af K]
     simp -implicitDefEqProofs only [C2,Tryz.f76,aP,hlen,h0,h1,h7,h8,hlt,hix,hrd,↓aR,Tryz.func47,show Tryz.f47.body.isSome=true from rfl,h47,hk,r5,↓az,nck,↓cbT,↓cbF,↓ao,an,eu,sevalprocAttr]
     exact ⟨_,_,rfl,by simp only [ls,hlen],by simp only [hlen,gB,sevalprocAttr],hA.bS _⟩
   | false =>
     simp only [bE,if_false]
     have key:∀ (tm1:List AV) (K1:AH),EvC aa C0 W0 plN rM (tm,K)=EvC aa C0 W0 plN rM (tm1,K1)->au G K1->tm1.length=19->tm1.getD 0 uA=w->tm1.getD 1 uA=.func (.func 47) [] []->tm1.getD 7 uA=I xs.length->tm1.getD 8 uA=I ((j+1:Nat):Int) ->
         (fz xs d (j+1)=xs.length->∃ X K1,EvC aa C0 W0 plN rM (tm,K)=some (.exit 0,(X,K1))/\X.length=19/\au G K1)/\(fz xs d (j+1) < xs.length->∃ Y K1,EvC aa C0 W0 plN rM (tm,K)=some (.ret,(Y,K1))/\Y.length=19/\Y.getD 4 uA=I (fz xs d (j+1):Nat)/\au G K1):=by
       intro tm1 K1 he a1 a2 a3 a4 a5 a6
       rw [he]
       exact ih (j+1) tm1 K1 (by omega) a1 a2 a3 a4 a5 a6
     have he:∃ tm1,EvC aa C0 W0 plN rM (tm,K)=EvC aa C0 W0 plN rM (tm1,K++[.cells [I (bz xs j).kind,I (bz xs j).code,I (bz xs j).grid,I (bz xs j).block,I (bz xs j).src,I (bz xs j).dst,I (bz xs j).ev,va,.int .i32 (bz xs j).word] 34])/\tm1.length=19/\tm1.getD 0 uA=w/\tm1.getD 1 uA=.func (.func 47) [] []/\tm1.getD 7 uA=I xs.length/\tm1.getD 8 uA=I ((j+1:Nat):Int):=by
       rw [EG]
       rw [<-af K]
       simp -implicitDefEqProofs only [C2,Tryz.f76,aP,hlen,h0,h1,h7,h8,hlt,hw,hix,hrd,↓aR,Tryz.func47,show Tryz.f47.body.isSome=true from rfl,h47,hk,r5,↓az,nck,↓cbT,↓cbF,↓ao,an,eu,sevalprocAttr]
       exact ⟨_,rfl,by simp only [ls,hlen],by simp only [hlen,h0,h1,h7,gB,and_self,sevalprocAttr]⟩
     obtain ⟨tm1,e1,e2,e3,e4,e5,e6⟩:=he
     exact key tm1 _ e1 (hA.bS _) e2 e3 e4 e5 e6
theorem Uz {G:AH} {xs:List Itm} {w:AV} (hx:dY G xs w) (hN:xs.length < 2 ^ 50) {tm:List AV} {K:AH} {Z:_} (hX:EvC aa C0 W0 plN rM (tm,K)=Z) (hA:au G K) (hlen:tm.length=19) (h0:tm.getD 0 uA=w) (h1:tm.getD 1 uA=.func (.func 47) [] []) (h7:tm.getD 7 uA=I xs.length) (h8:tm.getD 8 uA=I 0) :
   (fz xs xs.length 0=xs.length->∃ X K1,Z=some (.exit 0,(X,K1))/\X.length=19/\au G K1)/\(fz xs xs.length 0 < xs.length->∃ Y K1,Z=some (.ret,(Y,K1))/\Y.length=19/\Y.getD 4 uA=I (fz xs xs.length 0:Nat)/\au G K1):=by
 rw [<-hX]
 exact Xz hx hN xs.length 0 tm K (by omega) hA hlen h0 h1 h7 h8
theorem acC {H:AH} {xs:List Itm} {w:AV} (hx:dY H xs w):∃ r K,Ev aa C0 W0 76 [w,.func (.func 47) [] []] H=some (I r,K)/\au H K/\(fz xs xs.length 0=xs.length->r=-1)/\(fz xs xs.length 0 < xs.length->r=(fz xs xs.length 0:Nat)):=by
 obtain ⟨tm,ht,g0,g1,g2⟩:=tm2 w (.func (.func 47) [] []) 19 (by decide)
 rw [abg,ht]
 have hln:=hx.len
 have hn:=hx.n
 obtain ⟨_,hle,_,_⟩:=Bd xs xs.length 0 (by omega)
 simp -implicitDefEqProofs only [c76,Tryz.f76,aP,g0,g1,g2,hln,r5,↓az,nck,↓cbT,↓cbF,↓ao,an,eu,sevalprocAttr]
 generalize hX:EvC aa C0 W0 plN _ _=Z
 have hk:=Uz hx hn hX (au.refl H) (by simp only [ls,g0]) (by simp only [g0,g1,gB,sevalprocAttr]) (by simp only [g0,g2,gB,sevalprocAttr]) (by simp only [g0,gB,sevalprocAttr]) (by simp only [g0,gB,sevalprocAttr])
 rcases ky hle with e | e
 · obtain ⟨X,K1,h1,h2,h3⟩:=hk.1 e
   refine ⟨-1,K1,?_,h3,fun _=>rfl,fun h=>by omega⟩
   simp -implicitDefEqProofs only [h1,h2,↓cbT,↓cbF,↓ao,an,eu,sevalprocAttr]
 · obtain ⟨Y,K1,h1,h2,h3,h4⟩:=hk.2 e
   refine ⟨_,K1,?_,h4,fun h=>by omega,fun _=>rfl⟩
   simp -implicitDefEqProofs only [h1,h2,h3,↓cbT,↓cbF,↓ao,an,eu,sevalprocAttr]
theorem Own.Ax {b es:Nat} {K:AH} {w:AV} {xs new:List AV} {elem:TypeId} (h:Own b K es elem w xs) {o:Nat} (hj:o+new.length<=xs.length) (hn:new≠[]) (ho:new.all AV.one=true) :
   ∃ i k len cap ex K',w=.slice i k es len cap ex/\(∀ L,bh (K++L) i (k+o) new=some (K'++L))/\Own b K' es elem w (spl xs o new)/\K'.length=K.length/\∀ c,c≠i->K'[c]? =K[c]?:=by
 cases h with
 | nil=>exact absurd (by simp at hj; exact hj.2) hn
 | «at» i k len cap ex cs xs hb hi hl hc hrd =>
   have hxl:=pG hrd
   have hil:=aJ hi
   have hm:len * es<=cap * es:=mf _ hl
   have hfit:k+o+new.length<=cs.length:=by omega
   refine ⟨i,k,len,cap,ex,_,rfl,fun L=>iu hi hfit ho L,.at i k len cap ex (spl cs (k+o) new) _ hb (by rw [bH hil]) hl (by rw [gg]; exact hc) ?_,aq ..,fun c hc=>List.getElem?_set_ne (Ne.symm hc)⟩
   unfold ak at hrd ⊢
   rw [hi] at hrd
   rw [bH hil]
   simp only at hrd ⊢
   rw [if_pos (by omega)] at hrd
   generalize len * es=N at *
   have hx:xs=(cs.drop k).take N:=(aE hrd).symm
   rw [if_pos (by rw [gg]; omega),iy _ _ _ hfit,iy _ _ _ hj]
   congr 1
   have hxd:xs.take o=(cs.drop k).take o:=by rw [hx,rB,Nat.min_eq_left (by omega)]
   have hxr:xs.drop (o+new.length)=(cs.drop (k+(o+new.length))).take (N - (o+new.length)):=by rw [hx,rX,List.drop_drop]
   rw [hxd,hxr]
   have hl1:((cs.drop k).take o).length=o:=by rw [d4,List.length_drop]; omega
   rw [aG,aG,List.drop_append_of_le_length (by rw [d4]; omega),rX,show k+o - k=o by omega,vX,hl1,rB,Nat.min_eq_right (by omega),vX,bq (l:=new) (by omega),show N - o - new.length=N - (o+new.length) by omega,show k+o+new.length=k+(o+new.length) by omega]
theorem Own.shorter {b es:Nat} {K:AH} {elem:TypeId} {i k len cap m:Nat} {ex:Bool} {xs:List AV} (h:Own b K es elem (.slice i k es len cap ex) xs) (hm:m<=len):Own b K es elem (.slice i k es m cap ex) (xs.take (m * es)):=by
 cases h with
 | «at» i2 k2 len2 cap2 ex2 cs xs hb hi hl hc hrd =>
   have hmm:m * es<=len * es:=mf _ hm
   refine .at i k m cap ex cs _ hb hi (ba hm hl) hc ?_
   have:=AL hrd 0 (m * es) (by omega)
   rwa [oq,gA] at this
theorem Own.Kv {b es:Nat} {K:AH} {elem:TypeId} {i k len cap:Nat} {ex:Bool} {rows:List (List AV)} (hes:0 < es) (h:Own b K es elem (.slice i k es len cap ex) rows.flatten) (hr:∀ r∈rows,r.length=es):rows.length=len:=by
 have:=h.length
 rw [dM hr,cj] at this
 exact Nat.eq_of_mul_eq_mul_right hes this
def AgV (v:AV) (G K:AH):Prop:=G.length<=K.length/\∀ c,c < G.length->cu v≠some c->K[c]? =G[c]?
theorem AgV.of {v:AV} {G K:AH} (h:au G K):AgV v G K:=⟨h.len,fun c hc _=>h c hc⟩
theorem AgV.trans {v:AV} {G K M:AH} (h:AgV v G K) (h2:AgV v K M):AgV v G M:=⟨ba h.1 h2.1,fun c hc hn=>by rw [h2.2 c (bu hc h.1) hn,h.2 c hc hn]⟩
theorem AgV.aal {v:AV} {G K:AH} (h:AgV v G K):Sub (bM v G) (bM v K):=fun i o hi ho=>by
 have hne:cu v≠some i:=fun e=>(mI (K:=G) e).ne hi ho rfl
 rw [dp hne] at hi
 rw [dp hne,h.2 i (aJ hi) hne]; exact hi
theorem CL {P:Program} {C:Cfg P} {slot:Option Nat} {ev:Operand->Option AV} {H:AH} (o:Oper) (x:Operand) (t:TypeId):fZ P C slot ev o ⟨.builtin .clear,#[x],#[t]⟩ H=(ev x).bind fun v=>(uW P t v H).map fun H'=>(.val (.tuple []),H'):=by
 unfold fZ; simp only [evL]; cases ev x <;> rfl
theorem Bz (zs:List AV) (n:Nat):(k9 zs n).length=n:=by unfold k9; simp
theorem Ix {zs:List AV} (h:zs≠[]) (ho:zs.all AV.one=true) (n:Nat):(k9 zs n).all AV.one=true:=by
 unfold k9
 rw [List.all_eq_true] at ho ⊢
 intro x hx
 obtain ⟨j,_,rfl⟩:=List.mem_map.1 hx
 have hl:0 < zs.length:=by cases zs with | nil=>exact absurd rfl h | cons a l=>simp
 exact ho _ (eQ (Nat.mod_lt _ hl) _)
theorem N7 (H:AH) {i k l c n:Nat} {e:Bool} (h:n<=l) (hc:l<=c):kf aa 31 H (.slice i k 9 l c e) (some (I n)) none none=some (.slice i (k+n * 9) 9 (l - n) (c - n) e):=by
 have hu:aa.underlying 31=some (.slice 34):=by kernel_rfl
 have h9:aa.cellsOf 34=9:=by kernel_rfl
 have hin:aa.info? 34=some ((aa.info? 34).getD default):=by kernel_rfl
 unfold kf
 rw [hu]
 simp only [ie,vh,if_true,cw]
 rw [if_pos ⟨h,hc,h9⟩,hin]; rfl
theorem Fh (H:AH) {i k l c n:Nat} {e:Bool} (h:n<=c):kf aa 31 H (.slice i k 9 l c e) none (some (I n)) none=some (.slice i k 9 n c e):=by
 have hu:aa.underlying 31=some (.slice 34):=by kernel_rfl
 have h9:aa.cellsOf 34=9:=by kernel_rfl
 have hin:aa.info? 34=some ((aa.info? 34).getD default):=by kernel_rfl
 unfold kf
 rw [hu]
 simp only [ie,vh,if_true,cw]
 rw [if_pos ⟨cX _,h,h9⟩,hin]
 simp only [cE,Nat.zero_mul,oq,Nat.sub_zero]
def fH (p:Itm × AV):Bool:=!eqB p.1.kind 0
theorem Qo {b:Nat} {K:AH} {i k n m c:Nat} {e:Bool} {xs:List AV} (h:Own b K 9 34 (.slice i k 9 n c e) xs) (hm:m<=n):∃ K',(∀ L,uW aa 31 (.slice i (k+m * 9) 9 (n - m) (c - m) e) (K++L)=some (K'++L))/\Own b K' 9 34 (.slice i k 9 m c e) (xs.take (m * 9))/\K'.length=K.length/\∀ x,x≠i->K'[x]? =K[x]?:=by
 have hel:fW aa 31=some 34:=by kernel_rfl
 have h9:aa.cellsOf 34=9:=by kernel_rfl
 have hxl:=h.length
 rw [cj] at hxl
 unfold uW
 simp only [hel,sD,aA,h9,AV.cells,cF,gC,Nat.reduceAdd,ne_eq,reduceCtorEq,not_false_eq_true,and_self,if_true]
 rcases ky hm with e2 | e2
 · refine ⟨K,fun L=>?_,?_,rfl,fun _ _=>rfl⟩
   · rw [if_pos (by omega)]
   · exact h.shorter hm
 · have hsz:m * 9+(k9 [I 0,I 0,I 0,I 0,I 0,I 0,I 0,.nilSlice,.int .i32 0] ((n - m) * 9)).length<=xs.length:=by rw [Bz,hxl,<-Nat.add_mul]; omega
   obtain ⟨i2,k2,len2,cap2,ex2,K',e3,hwr,hown,hlen,hoth⟩:=h.Ax hsz (fun e4=>by have:=congrArg gJ e4; rw [Bz,gC] at this; omega) (Ix (by simp) rfl _)
   cases e3
   refine ⟨K',fun L=>?_,?_,hlen,hoth⟩
   · rw [if_neg (by omega)]; exact hwr L
   · have:=hown.shorter hm
     rw [iy _ _ _ hsz,aG,List.take_append_of_le_length (by rw [d4]; omega),rB,Nat.min_self] at this
     exact this
theorem Zh {K0:AH} {l:List (Itm × AV)} {v:AV} {b:Nat} (hvl:∀ G,dQ aa 31 G v=some (I l.length)) (hargs:∀ p∈l,SlS 32 1 (bM v K0) p.2 (p.1.args.map dw)) (hN:l.length < 2 ^ 60):∀ (d j:Nat) (tm:List AV) (K:AH) (Z:Option (bs × St)),EvC aa C0 W0 plN Ry (tm,K)=Z->l.length - j=d->j<=l.length->(tm.length=42/\tm.getD 0 uA=v/\tm.getD 1 uA=.func (.func 47) [] []/\tm.getD 6 uA=I ((j:Nat):Int)/\AgV v K0 K/\∃ zs:List (List AV),tm.getD 5 uA=I (((l.take (j)).filter fH).length:Nat)/\(∀ r∈zs,r.length=9)/\((l.take (j)).filter fH).length+zs.length=j/\Own b K 9 34 v (((l.take (j)).filter fH).map fk++(zs++(l.drop (j)).map fk)).flatten) ->
   ∃ X K1,Z=some (.exit 0,(X,K1))/\(X.length=42/\X.getD 0 uA=v/\X.getD 1 uA=.func (.func 47) [] []/\X.getD 6 uA=I ((l.length:Nat):Int)/\AgV v K0 K1/\∃ zs:List (List AV),X.getD 5 uA=I (((l.take (l.length)).filter fH).length:Nat)/\(∀ r∈zs,r.length=9)/\((l.take (l.length)).filter fH).length+zs.length=l.length/\Own b K1 9 34 v (((l.take (l.length)).filter fH).map fk++(zs++(l.drop (l.length)).map fk)).flatten):=by
 intro d
 induction d with
 | zero =>
   intro j tm K Z hZ hd hj hI
   subst hZ
   have hjl:j=l.length:=by omega
   subst hjl
   have hI0:=hI
   obtain ⟨hlen,h0,h1,h6,hA,zs,h5,hz,hzl,ho⟩:=hI
   have hlt:ltB (((l.length:Nat)):Int) (l.length:Nat)=false:=cH (by omega)
   have hln:=hvl
   rw [Mh]
   simp -implicitDefEqProofs only [C9,Tryz.f45,aP,hlen,h0,h1,h6,h5,hlt,↓hln,↓cbT,↓cbF,↓ao,an,eu,sevalprocAttr]
   refine ⟨_,K,rfl,?_⟩
   exact ⟨by simp only [ls,hlen],Aj3 (by simp only [hlen,h0,h1,h6,gB,and_self,sevalprocAttr]) ⟨hA,zs,by simp only [hlen,h5,gB,sevalprocAttr],hz,hzl,ho⟩⟩
 | succ d ih =>
   intro j tm K Z hZ hd hj hI
   subst hZ
   have hI0:=hI
   obtain ⟨hlen,h0,h1,h6,hA,zs,h5,hz,hzl,ho⟩:=hI
   have hjN:j < l.length:=by omega
   have hlt:ltB (j:Int) (l.length:Nat)=true:=cD (by omega)
   have hw:=cp (j:=j) (by omega)
   have hln:=hvl
   have hdr:l.drop j=l[j]::l.drop (j+1):=gW hjN
   have htk:l.take (j+1)=l.take j++[l[j]]:=by rw [eH,aj hjN]; rfl
   have hpm:l[j]∈l:=List.getElem_mem hjN
   generalize l[j]=p at *
   have hrow:∀ r∈((l.take j).filter fH).map fk++(zs++(l.drop j).map fk),r.length=9:=fun r hr=>by
     rcases cz.1 hr with h | h
     · exact fe _ r h
     · rcases cz.1 h with h | h
       · exact hz r h
       · exact fe _ r h
   have hsl:=Own.nB mJ (by decide) ho hrow
   obtain ⟨i1,k1,hix,hrd⟩:=hsl.ix j (fk p) (by
     rw [al (by rw [ar]; omega),ar,al (by omega),show j - ((l.take j).filter fH).length - zs.length=0 by omega,hdr]; rfl)
   rw [hdr] at ho hrow
   have ha:=hargs p hpm
   have hac:=ha.cells
   have hao:=ha.one
   have h47:=fun L=>YU (H:=K) (x:=p.1) hac hao L
   rw [gI] at ho hrow
   obtain ⟨x,va⟩:=p
   have hrd:=fun L=>(au.app K L).sub.rd hrd
   simp only [fk,aL] at hrd h47 hac hao
   rw [Mh]
   rw [<-af K]
   cases hk:eqB x.kind 0 with
   | true =>
     simp -implicitDefEqProofs only [C9,Tryz.f45,aP,hlen,h0,h1,h6,h5,hlt,hw,sD,ed,hix,hrd,↓hac,↓hao,↓aR,Tryz.func47,show Tryz.f47.body.isSome=true from rfl,h47,hk,↓hln,r5,↓az,nck,↓cbT,↓cbF,↓ao,an,eu,sevalprocAttr]
     generalize hX:EvC aa C0 W0 _ _ _=Z
     refine ih (j+1) _ _ _ hX (by omega) (by omega) ?_
     have hkp:[((x,va):Itm × AV)].filter fH=[]:=by simp only [E8,fH,hk,Bool.not_true]
     rw [htk,mU,hkp,af]
     exact ⟨by simp only [ls,hlen],Aj3 (by simp only [hlen,h0,h1,gB,and_self,sevalprocAttr]) ⟨hA.trans (AgV.of (au.app K _)),zs++[fk (x,va)],by simp only [hlen,h5,gB,sevalprocAttr],fun r hr=>(by
       rcases cz.1 hr with h | h
       · exact hz r h
       · rw [bF] at h; subst h; rfl),by rw [ai,eI]; omega,by
       have:=ho.bg (au.app K [bl.cells (aL x va) 34,bl.cells (aL x va) 34])
       rw [aG]
       exact this⟩⟩
   | false =>
     have hkp:[((x,va):Itm × AV)].filter fH=[(x,va)]:=by simp only [E8,fH,hk,Bool.not_false]
     have hwi:=cp (j:=((l.take j).filter fH).length) (by omega)
     have hone:(aL x va).all AV.one=true:=by
       show (AV.one _ && (AV.one _ && (AV.one _ && (AV.one _ && (AV.one _ && (AV.one _ && (AV.one _ && (AV.one _ && (AV.one _ && true)))))))))=true
       rw [hao]; rfl
     have hAl:(((l.take j).filter fH).map fk).flatten.length=((l.take j).filter fH).length * 9:=by rw [dM (fe _),ar]
     have hsz:(((l.take j).filter fH).map fk).flatten.length+(aL x va).length<=(((l.take j).filter fH).map fk++(zs++(fk (x,va)::(l.drop (j+1)).map fk))).flatten.length:=by
       rw [ez,ai,ez,ai,List.flatten_cons,ai]
       have h1:(fk (x,va)).length=9:=rfl
       have h2:(aL x va).length=9:=rfl
       omega
     obtain ⟨i,k,len,cap,ex,K',hv,hwr,hown,hlK,hoth⟩:=Own.Ax ho hsz (new:=aL x va) (by simp [aL]) hone
     have hlen9:(((l.take j).filter fH).map fk++(zs++(fk (x,va)::(l.drop (j+1)).map fk))).length=len:=by
       rw [hv] at ho
       exact ho.Kv (by decide) hrow
     have hix2:∀ kk,aD aa 31 v (.int kk (((l.take j).filter fH).length:Nat))=some (.ptr i (k+((l.take j).filter fH).length * 9)):=fun kk=>by
       rw [hv,mJ.ia,if_pos ⟨by omega,by rw [<-hlen9,ai,ar,ai,cF]; omega,rfl⟩]; rfl
     rw [hAl] at hwr hown
     simp only [aL] at hwr
     have hspl:spl (((l.take j).filter fH).map fk++(zs++(fk (x,va)::(l.drop (j+1)).map fk))).flatten (((l.take j).filter fH).length * 9) (aL x va)=(((l.take j).filter fH).map fk++(fk (x,va)::(zs++[fk (x,va)]).tail++(l.drop (j+1)).map fk)).flatten:=by
       show spl _ _ (fk (x,va))=_
       cases zs with
       | nil=>exact xg (A:=((l.take j).filter fH).map fk) hAl rfl
       | cons z zs =>
         have:=xg (A:=((l.take j).filter fH).map fk) (r:=z) (r':=fk (x,va)) (B:=zs++(fk (x,va)::(l.drop (j+1)).map fk)) hAl (by rw [hz z (by simp)]; rfl)
         simpa only [List.cons_append,List.tail_cons,aG,List.nil_append] using this
     rw [hspl] at hown
     simp -implicitDefEqProofs only [C9,Tryz.f45,aP,hlen,h0,h1,h6,h5,hlt,hw,sD,ed,hix,hrd,↓hac,↓hao,↓aR,Tryz.func47,show Tryz.f47.body.isSome=true from rfl,h47,hk,↓hln,r5,↓az,nck,hwi,hix2,hwr,ed,↓cbT,↓cbF,↓ao,an,eu,sevalprocAttr]
     generalize hX:EvC aa C0 W0 _ _ _=Z
     refine ih (j+1) _ _ _ hX (by omega) (by omega) ?_
     rw [htk,mU,hkp]
     exact ⟨by simp only [ls,hlen],Aj3 (by simp only [hlen,h0,h1,gB,and_self,sevalprocAttr]) ⟨hA.trans ⟨by rw [ai,hlK]; omega,fun c hc hn=>by
         rw [aw (by rw [hlK]; exact hc)]
         exact hoth c fun e=>hn (by rw [hv,e]; rfl)⟩,(zs++[fk (x,va)]).tail,by
         rw [ai,eI]
         simp only [hlen,gB,sevalprocAttr],fun r hr=>(by
       rcases cz.1 (List.mem_of_mem_tail hr) with h | h
       · exact hz r h
       · rw [bF] at h; subst h; rfl),by rw [ai,eI,List.length_tail,ai,eI]; omega,by
       have:=hown.bg (au.app K' [bl.cells (aL x va) 34,bl.cells (aL x va) 34])
       rw [eg,aG]
       exact this⟩⟩
theorem Ce:∀ (l:List (Itm × AV)),(∀ i,i < l.length->eqB (bz (l.map (·.1)) i).kind 0=false)->l.filter fH=l:=by
 intro l h
 rw [List.filter_eq_self]
 intro p hp
 obtain ⟨i,hi,rfl⟩:=List.getElem_of_mem hp
 have:=h i hi
 unfold fH
 rw [show (l[i]).1=bz (l.map (·.1)) i from ?_,this]; rfl
 unfold bz
 rw [gde,aM,aj hi]; rfl
theorem HD {l:List (Itm × AV)} {f:Nat} (hf:f < l.length) (h:∀ i,i < f->eqB (bz (l.map (·.1)) i).kind 0=false) (h2:eqB (bz (l.map (·.1)) f).kind 0=true):(l.take (f+1)).filter fH=l.take f:=by
 have ht:l.take (f+1)=l.take f++[l[f]]:=by rw [eH,aj hf]; rfl
 rw [ht,mU,Ce (l.take f) fun i hi=>?_]
 · have:fH l[f]=false:=by
     unfold fH
     rw [show (l[f]).1=bz (l.map (·.1)) f from ?_,h2]; rfl
     unfold bz
     rw [gde,aM,aj hf]; rfl
   simp [this]
 · rw [d4] at hi
   rw [<-h i (by omega)]
   unfold bz
   rw [gde,gde,aM,aM,List.getElem?_take_of_lt (by omega)]
theorem Own.shN {b es:Nat} {K:AH} {elem:TypeId} {v:AV} {xs:List AV} (h:Own b K es elem v xs) (hn:xs≠[]):∃ i k len cap ex,v=.slice i k es len cap ex/\len<=cap:=by
 cases h with
 | nil=>exact absurd rfl hn
 | «at» i k len cap ex cs xs hb hi hl hc hrd=>exact ⟨i,k,len,cap,ex,rfl,hl⟩
theorem acV {K:AH} {l:List (Itm × AV)} {v:AV} {b:Nat} (ho:Own b K 9 34 v (l.map fk).flatten) (hI:dY K (l.map (·.1)) v) (hargs:∀ p∈l,SlS 32 1 (bM v K) p.2 (p.1.args.map dw)) :
   ∃ v' K',Ev aa C0 W0 45 [v,.func (.func 47) [] []] K=some (v',K')/\AgV v K K'/\cu v'=cu v/\Own b K' 9 34 v' ((l.filter fH).map fk).flatten:=by
 obtain ⟨r,K1,h76,hA1,hr1,hr2⟩:=acC hI
 obtain ⟨_,hf2,hf3,hf4⟩:=Bd (l.map (·.1)) (l.map (·.1)).length 0 (by omega)
 have hln0:=hI.n
 generalize fz (l.map (·.1)) (l.map (·.1)).length 0=f at *
 rw [ar] at *
 have hvl:∀ G,dQ aa 31 G v=some (I l.length):=fun G=>by
   have:=(ho.nB mJ (by decide) (fe l)).len G
   rwa [ar] at this
 obtain ⟨tm,ht,g0,g1,g2⟩:=tm2 v (.func (.func 47) [] []) 42 (by decide)
 rw [abE,ht]
 rcases ky hf2 with e | e
 · have hr:=hr1 e
   subst hr
   have hq:eqB (-1) (-1)=true:=rfl
   simp -implicitDefEqProofs only [c45,Tryz.f45,aP,g0,g1,g2,h76,hq,↓Yn,r5,↓az,nck,↓cbT,↓cbF,↓ao,an,eu,sevalprocAttr]
   refine ⟨_,K1,rfl,AgV.of hA1,rfl,?_⟩
   rw [Ce l fun i hi=>hf3 i (by omega) (by omega)]
   exact ho.bg hA1
 · have hr:=hr2 e
   subst hr
   have hq:eqB (f:Int) (-1)=false:=fU (by omega)
   have hwf:=cp (j:=f) (by omega)
   simp -implicitDefEqProofs only [c45,Tryz.f45,aP,g0,g1,g2,h76,hq,hwf,↓Yn,r5,↓az,nck,↓cbT,↓cbF,↓ao,an,eu,sevalprocAttr]
   generalize hX:EvC aa C0 W0 plN _ _=Z
   have hkh:=HD e (fun i hi=>hf3 i (by omega) hi) (hf4 e)
   have hlt:(l.take f).length=f:=by rw [d4]; omega
   have hdr:l.drop f=l[f]::l.drop (f+1):=gW e
   have hD:=Zh (K0:=K1) (b:=b) hvl (fun p hp=>(hargs p hp).sub (AgV.of hA1).aal) (by omega) _ (f+1) _ _ _ hX rfl (by omega) ⟨by simp only [ls,g0],Aj3 (by simp only [g0,g1,g2,gB,and_self,sevalprocAttr]) ⟨AgV.of (au.refl K1),[fk l[f]],by rw [hkh,hlt]; simp only [g0,gB,sevalprocAttr],fun r hr=>by rw [bF] at hr; subst hr; rfl,by rw [hkh,hlt]; rfl,by
     rw [hkh]
     have h1:=ho.bg hA1
     rw [<-List.take_append_drop f l,hdr,eg,gI] at h1
     exact h1⟩⟩
   obtain ⟨X,K2,he,x0,x1,x2,x6,xA,zs,x5,hz,hzl,hown⟩:=hD
   subst he
   rw [gH,List.drop_length,List.map_nil,af] at hown
   rw [gH] at x5 hzl
   obtain ⟨i,k,len,cap,ex,hv,hcap⟩:=hown.shN (by
     intro h
     have:=congrArg gJ h
     rw [dM (es:=9) fun r hr=>?_,ai,ar,hzl,gC] at this
     · omega
     · rcases cz.1 hr with h | h
       · exact fe _ r h
       · exact hz r h)
   subst hv
   have hrr:∀ r∈(l.filter fH).map fk++zs,r.length=9:=fun r hr=>by
     rcases cz.1 hr with h | h
     · exact fe _ r h
     · exact hz r h
   have hle:=hown.Kv (by decide) hrr
   rw [ai,ar,hzl] at hle
   subst hle
   have hm:(l.filter fH).length<=l.length:=by omega
   obtain ⟨K3,hcl,hown3,hl3,ho3⟩:=Qo hown hm
   have hcl0:=hcl []
   rw [af,af] at hcl0
   have s1:=fun H=>N7 H (i:=i) (k:=k) (e:=ex) hm hcap
   have s2:=fun H=>Fh H (i:=i) (k:=k) (l:=l.length) (e:=ex) (ba hm hcap)
   simp -implicitDefEqProofs only [x0,x1,x2,x5,x6,s1,s2,hcl0,↓CL,r5,↓az,nck,↓cbT,↓cbF,↓ao,an,eu,sevalprocAttr]
   refine ⟨_,K3,rfl,(AgV.of hA1).trans (xA.trans ⟨by omega,fun c hc hn=>ho3 c fun e2=>hn (by rw [e2]; rfl)⟩),rfl,?_⟩
   rw [ez,List.take_left' (by rw [dM (fe _),ar])] at hown3
   exact hown3
def iv1 (l:List Nat):List AV:=l.map fun (n:Nat)=>I (n:Int)
def Ex (K:AH) (es:Nat) (elem:TypeId) (v:AV) (xs:List AV):Prop:=(v=.nilSlice/\xs=[])∨∃ i n,v=.slice i 0 es n n false/\K[i]? =some (.cells xs elem)/\xs.length=n * es
theorem Ex.rd {K:AH} {es i n:Nat} {elem:TypeId} {xs:List AV} (h:K[i]? =some (.cells xs elem)) (hl:xs.length=n * es):ak K i 0 (n * es)=some xs:=by
 unfold ak
 rw [h]
 simp only
 rw [if_pos (by omega),gA,bq (by omega)]
theorem Ex.own {K:AH} {es:Nat} {elem:TypeId} {v:AV} {xs:List AV} (h:Ex K es elem v xs):Own 0 K es elem v xs:=by
 rcases h with ⟨rfl,rfl⟩ | ⟨i,n,rfl,hi,hl⟩
 · exact .nil
 · exact .at i 0 n n false xs xs (cX _) hi (ax _) (by omega) (Ex.rd hi hl)
theorem Ex.cells {K:AH} {es:Nat} {elem:TypeId} {v:AV} {xs:List AV} (h:Ex K es elem v xs):v.cells=[v]/\v.one=true:=h.own.cells
theorem Ex.lt {K:AH} {es:Nat} {elem:TypeId} {v:AV} {xs:List AV} (h:Ex K es elem v xs) {i:Nat} (hv:cu v=some i):i < K.length:=(gT h.own hv).2
theorem Ex.lH {K K':AH} {es:Nat} {elem:TypeId} {v:AV} {xs:List AV} (h:Ex K es elem v xs) (hk:∀ i,cu v=some i->K'[i]? =K[i]?):Ex K' es elem v xs:=by
 rcases h with h | ⟨i,n,rfl,hi,hl⟩
 · exact .inl h
 · exact .inr ⟨i,n,rfl,by rw [hk i rfl]; exact hi,hl⟩
theorem Ex.lenOf {K:AH} {es:Nat} {elem:TypeId} {v:AV} {xs:List AV} (h:Ex K es elem v xs):xs.length=bA v * es:=h.own.length
theorem qf {sT elem:TypeId} {xT:Option TypeId} {es B:Nat} (T:pj aa sT xT elem es) (hes:0 < es) {K:AH} (hB:K.length=B) {v:AV} {xs:List AV} (h:Ex K es elem v xs) {new:List AV} (hn:new.length=es) (hone:new.all AV.one=true) (hg:fT (aa.bytesOf elem) (bA v+1)=true)
   (s q:Nat) (L:AH) (hs:L[s]? =some .fresh) (hq:L[q]? =some (.cells new elem)) :
   f0 aa (some (B+s)) sT xT v (.slice (B+q) 0 es 1 1 true) (K++L)=some (.slice (B+s) 0 es (bA v+1) (bA v+1) false,bM v K++L.set s (.cells (xs++new) elem)):=by
 obtain ⟨z,hz,hzl,hzn⟩:=T.z
 have hgq:(K++L)[B+q]? =some (.cells new elem):=by rw [al (by omega),<-hB,Nat.add_sub_cancel_left]; exact hq
 have hrd:ak (K++L) (B+q) 0 (1 * es)=some new:=Ex.rd hgq (by omega)
 unfold f0
 rw [if_neg (by rw [T.x]; simp),T.el,aA,hz,aA,T.sz]
 simp only [pz,if_true,aA,ax,hrd]
 rw [if_pos ⟨by rw [hzl,T.sz],hzn⟩]
 have hput:∀ (K1:AH) o,K1.length=B->put (some (B+s)) (K1++L) o=some (B+s,K1++L.set s o):=fun K1 o hl=>by
   unfold put
   simp only
   rw [al (by omega),show B+s - K1.length=s by omega,hs]
   simp only
   rw [List.set_append_right _ _ (by omega),show B+s - K1.length=s by omega]
 rcases h with ⟨rfl,rfl⟩ | ⟨i,n,rfl,hi,hl⟩
 · simp only [Nat.one_ne_zero,if_false,oL,Nat.zero_add] at hg ⊢
   rw [if_pos hg,hput K _ hB]; rfl
 · have hiK:=aJ hi
   simp only [cj] at hg ⊢
   rw [if_pos trivial,if_neg (by omega),if_neg (by omega),if_neg (by simp),aw hiK,hi]
   simp only
   rw [if_pos ⟨trivial,hone,hg⟩,Ex.rd (by rw [aw hiK]; exact hi) hl,aA,List.set_append_left _ _ hiK,hput _ _ (by rw [aq]; exact hB)]; rfl
abbrev OS:=AV × Nat × TypeId × List AV
structure qg (S K:AH) (X:List Nat) (f:Nat->Nat->OS):Prop where
 sl:S.length<=K.length
 xl:∀ x∈X,x < K.length
 ex:∀ a i,Ex K (f a i).2.1 (f a i).2.2.1 (f a i).1 (f a i).2.2.2
 dis:∀ a i c j,¬(a=c/\i=j)->∀ b,cu (f a i).1=some b->cu (f c j).1≠some b
 own:∀ a i b,cu (f a i).1=some b->lB S b/\b∉X
def GX (f:Nat->Nat->OS) (a i:Nat) (e:OS):Nat->Nat->OS:=fun c j=>if c=a/\j=i then e else f c j
theorem qg.upd {S K:AH} {X:List Nat} {f:Nat->Nat->OS} (h:qg S K X f) (a i:Nat) {K':AH} {e:OS} (he:Ex K' e.2.1 e.2.2.1 e.1 e.2.2.2) (hb:∀ b,cu e.1=some b->cu (f a i).1=some b∨K.length<=b) (hl:K.length<=K'.length)
   (hK:∀ b,b < K.length->cu (f a i).1≠some b->K'[b]? =K[b]?):qg S K' X (GX f a i e) where
 sl:=ba h.sl hl
 xl:=fun x hx=>bu (h.xl x hx) hl
 ex:=fun c j=>by
   unfold GX
   split
   · exact he
   · rename_i hne
     exact (h.ex c j).lH fun b hb=>hK b ((h.ex c j).lt hb) (h.dis c j a i hne b hb)
 dis:=fun a1 i1 c j hne b hb1 hb2=>by
   unfold GX at hb1 hb2
   split at hb1
   · rename_i e1
     split at hb2
     · rename_i e2; exact hne ⟨e1.1.trans e2.1.symm,e1.2.trans e2.2.symm⟩
     · rename_i e2
       rcases hb b hb1 with h1 | h1
       · exact h.dis a i c j (fun x=>e2 ⟨x.1.symm,x.2.symm⟩) b h1 hb2
       · have:=(h.ex c j).lt hb2; omega
   · rename_i e1
     split at hb2
     · rcases hb b hb2 with h1 | h1
       · exact h.dis a1 i1 a i e1 b hb1 h1
       · have:=(h.ex a1 i1).lt hb1; omega
     · exact h.dis a1 i1 c j hne b hb1 hb2
 own:=fun c j b hb1=>by
   unfold GX at hb1
   split at hb1
   · rcases hb b hb1 with h1 | h1
     · exact h.own a i b h1
     · exact ⟨tA (ba h.sl h1),fun hx=>by have:=h.xl b hx; omega⟩
   · exact h.own c j b hb1
theorem qg.same {S K:AH} {X:List Nat} {f:Nat->Nat->OS} (h:qg S K X f) {K':AH} (hl:K.length<=K'.length) (hK:∀ b,b < K.length->b∉X->K'[b]? =K[b]?):qg S K' X f where
 sl:=ba h.sl hl
 xl:=fun x hx=>bu (h.xl x hx) hl
 ex:=fun c j=>(h.ex c j).lH fun b hb=>hK b ((h.ex c j).lt hb) (h.own c j b hb).2
 dis:=h.dis
 own:=h.own
theorem qg.congr {S K:AH} {X:List Nat} {f g:Nat->Nat->OS} (h:qg S K X f) (e:∀ a i,g a i=f a i):qg S K X g:=by
 have:g=f:=funext fun a=>funext fun i=>e a i
 rw [this]; exact h
def q9 (S:AH) (n:Nat) (o:bl):AH:=S++List.replicate (n - S.length) .dead++[o]
theorem B1 {S:AH} {n:Nat} {o:bl} (h:S.length<=n):(q9 S n o).length=n+1:=by unfold q9; simp; omega
theorem uz {S:AH} {n:Nat} {o:bl} (h:S.length<=n):(q9 S n o)[n]? =some o:=by
 unfold q9
 rw [al (by simp; omega)]
 simp only [ai,List.length_replicate]
 rw [show n - (S.length+(n - S.length))=0 by omega]; rfl
theorem nR {S:AH} {n:Nat} {o:bl}:au S (q9 S n o):=fun i hi=>by
 unfold q9
 rw [aG,aw hi]
theorem uB {S:AH} {n i:Nat} {o:bl} (hS:S.length<=n) (h:lB S i) (hi:i < n):lB (q9 S n o) i:=by
 rcases aX i S.length with c | c
 · unfold lB
   rw [nR i c]; exact h
 · right
   unfold q9
   rw [aw (by simp; omega),al c,kC,if_pos (by omega)]
theorem Ps {S K:AH} {o:bl} (hS:S.length<=K.length) (h:Sub S K):Sub (q9 S K.length o) (K++[o]):=fun i x hi hx=>by
 have hil:=aJ hi
 rw [B1 hS] at hil
 rcases aX i K.length with c | c
 · rw [aw c]
   rcases aX i S.length with d | d
   · rw [nR i d] at hi; exact h i x hi hx
   · unfold q9 at hi
     rw [aw (by simp; omega),al d,kC,if_pos (by omega)] at hi
     cases hi; exact absurd rfl hx
 · have:i=K.length:=by omega
   subst this
   rw [uz hS] at hi
   rw [al (ax _),Nat.sub_self]; exact hi
theorem qg.pad {S K:AH} {X:List Nat} {f:Nat->Nat->OS} (h:qg S K X f) (o:bl):qg (q9 S K.length o) (K++[o]) X f where
 sl:=by rw [B1 h.sl,ai]; exact ax _
 xl:=fun x hx=>by rw [ai]; exact bu (h.xl x hx) (Nat.le_add_right _ _)
 ex:=fun c j=>(h.ex c j).lH fun b hb=>aw ((h.ex c j).lt hb)
 dis:=h.dis
 own:=fun c j b hb=>⟨uB h.sl (h.own c j b hb).1 ((h.ex c j).lt hb),(h.own c j b hb).2⟩
end Go.Dv
