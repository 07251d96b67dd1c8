/- Part 29 of the walks (own work). -/
import Derived.Test.YtilpjnckfkjkbaaGreatDoorU28
open Bool renaming false_eq_true→bK
open Int renaming natCast_nonneg→vH,toNat_natCast→cN
open List renaming append_assoc→aD,append_nil→af,drop_eq_getElem_cons→g7,drop_take→r9,drop_zero→ib,filter→FE,filter_append→m9,flatten_append→gF,getElem?_append_left→ar,getElem?_append_right→al,getElem?_eq_getElem→aj,getElem?_map→aO,getElem?_replicate→kL,getElem?_set_self→bG,length→ew,length_append→ai,length_cons→cR,length_map→ao,length_nil→gH,length_set→aq,length_singleton→eM,length_take→dR,map_append→dE,map_cons→fI,mem_append→cA,mem_singleton→bJ,take_add_one→ez,take_append→wC,take_length→gg,take_of_length_le→bt,take_take→rL
open Nat renaming add_zero→oC,eq_or_lt_of_le→kJ,le_refl→aw,le_trans→bh,lt_of_lt_of_le→bF,lt_or_ge→bc,mul_le_mul_right→mn,zero_le→aV
open Option renaming bind_some→ax,map_some→cH
open Option.some renaming inj→aB
open Go.Proofs.Tryz renaming prog→aa
set_option maxRecDepth 100000
set_option maxHeartbeats 4000000
set_option linter.unusedSimpArgs false
set_option linter.unusedVariables false
open Go.Proofs.Tryz (f45 f47 f76 func47)
namespace Go.Dv
open Go.Proofs
attribute [local congr] aA bC aT bB bD
theorem aag {H:AH} {x:Itm} {va:AV} (hac:va.cells=[va]) (hao:va.one=true) (L:AH):Ev aa C0 W0 47 [.agg (aJ x va)] (H++L)=some (.bool (eqB x.kind 0),H++(L++[.cells (aJ x va) 34])):=by obtain ⟨tm,ht,g0,g1⟩:=tm1 (.agg (aJ x va)) 6 (by decide);rw [ac8,ht];simp -implicitDefEqProofs only [c47,f47,aP,g0,g1,aJ,↓hac,↓hao,↓zzC,zzE,sevalprocAttr]
def fz (xs:List Itm):Nat->Nat->Nat
 | 0,j=>j
 | d+1,j=>if eqB (bo xs j).kind 0 then j else fz xs d (j+1)
theorem Bv (xs:List Itm):∀ d j,j+d=xs.length->j<=fz xs d j/\fz xs d j<=xs.length/\(∀ i,j<=i->i < fz xs d j->eqB (bo xs i).kind 0=false)/\(fz xs d j < xs.length->eqB (bo xs (fz xs d j)).kind 0=true)
 | 0,j,h=>⟨aw _,by simp only [fz]; omega,fun i h1 h2=>by simp only [fz] at h2; omega,fun h2=>by simp only [fz] at h2; omega⟩
 | d+1,j,h=>by
   simp only [fz]
   cases hk:eqB (bo xs j).kind 0 with
   | true=>exact ⟨aw _,by simp; omega,fun i h1 h2=>by simp at h2; omega,fun _=>by simpa using hk⟩
   | false =>
     obtain ⟨h1,h2,h3,h4⟩:=Bv xs d (j+1) (by omega)
     simp only [bK,if_false]
     refine ⟨by omega,h2,fun i a b=>?_,h4⟩
     rcases kJ a with e | e
     · rw [<-e]; exact hk
     · exact h3 i e b
theorem YT {G:AH} {xs:List Itm} {w:AV} (hx:eD G xs w) (hN:xs.length < 2 ^ 50):∀ (d j:Nat) (tm:List AV) (K:AH),j+d=xs.length->an G K->tm.length=19->tm.getD 0 uA=w->tm.getD 1 uA=.func (.func 47) [] []->tm.getD 7 uA=I xs.length->tm.getD 8 uA=I (j:Int) ->
   (fz xs d j=xs.length->∃ X K1,EvC aa C0 W0 plN rW (tm,K)=some (.exit 0,(X,K1))/\X.length=19/\an G K1)/\(fz xs d j < xs.length->∃ Y K1,EvC aa C0 W0 plN rW (tm,K)=some (.ret,(Y,K1))/\Y.length=19/\Y.getD 4 uA=I (fz xs d j:Nat)/\an G K1):=by
 intro d;induction d with
 | zero =>intro j tm K hj hA hlen h0 h1 h7 h8;have hlt:ltB (j:Int) (xs.length:Nat)=false:=cw (by omega);refine ⟨fun _=>?_,fun h=>by simp only [fz] at h; omega⟩;rw [Fb];simp -implicitDefEqProofs only [Dt,f76,aP,hlen,h0,h1,h7,h8,hlt,↓zzA,zzB,sevalprocAttr];exact ⟨_,K,rfl,by simp only [ls,hlen],hA⟩
 | succ d ih =>
   intro j tm K hj hA hlen h0 h1 h7 h8;have hjN:j < xs.length:=by omega
   have hlt:ltB (j:Int) (xs.length:Nat)=true:=cu (by omega);have hw:=b6 (j:=j) (by omega);obtain ⟨i,k,va,hix,hrd,ha⟩:=hx.at hA hjN;have hac:=ha.cells;have hao:=ha.one;have h47:=fun L=>aag (H:=K) (x:=bo xs j) hac hao L;simp only [aJ] at hrd h47;simp only [fz];cases hk:eqB (bo xs j).kind 0 with
   | true =>simp only [if_true];refine ⟨fun h=>absurd h (by omega),fun _=>?_⟩;rw [Fb];rw [<-af K];simp -implicitDefEqProofs only [Dt,f76,aP,hlen,h0,h1,h7,h8,hlt,hix,hrd,↓aS,func47,show f47.body.isSome=true from rfl,h47,hk,↓zzC,zzE,sevalprocAttr];exact ⟨_,_,rfl,by simp only [ls,hlen],by simp only [hlen,gB,sevalprocAttr],hA.bX _⟩
   | false =>
     simp only [bK,if_false];have key:∀ (tm1:List AV) (K1:AH),EvC aa C0 W0 plN rW (tm,K)=EvC aa C0 W0 plN rW (tm1,K1)->an G K1->tm1.length=19->tm1.getD 0 uA=w->tm1.getD 1 uA=.func (.func 47) [] []->tm1.getD 7 uA=I xs.length->tm1.getD 8 uA=I ((j+1:Nat):Int) ->
         (fz xs d (j+1)=xs.length->∃ X K1,EvC aa C0 W0 plN rW (tm,K)=some (.exit 0,(X,K1))/\X.length=19/\an G K1)/\(fz xs d (j+1) < xs.length->∃ Y K1,EvC aa C0 W0 plN rW (tm,K)=some (.ret,(Y,K1))/\Y.length=19/\Y.getD 4 uA=I (fz xs d (j+1):Nat)/\an G K1):=by
       intro tm1 K1 he a1 a2 a3 a4 a5 a6
       rw [he]
       exact ih (j+1) tm1 K1 (by omega) a1 a2 a3 a4 a5 a6
     have he:∃ tm1,EvC aa C0 W0 plN rW (tm,K)=EvC aa C0 W0 plN rW (tm1,K++[.cells [I (bo xs j).kind,I (bo xs j).code,I (bo xs j).grid,I (bo xs j).block,I (bo xs j).src,I (bo xs j).dst,I (bo xs j).ev,va,.int .i32 (bo xs j).word] 34])/\tm1.length=19/\tm1.getD 0 uA=w/\tm1.getD 1 uA=.func (.func 47) [] []/\tm1.getD 7 uA=I xs.length/\tm1.getD 8 uA=I ((j+1:Nat):Int):=by rw [Fb];rw [<-af K];simp -implicitDefEqProofs only [Dt,f76,aP,hlen,h0,h1,h7,h8,hlt,hw,hix,hrd,↓aS,func47,show f47.body.isSome=true from rfl,h47,hk,↓zzC,zzE,sevalprocAttr];exact ⟨_,rfl,by simp only [ls,hlen],by simp only [hlen,h0,h1,h7,gB,and_self,sevalprocAttr]⟩
     obtain ⟨tm1,e1,e2,e3,e4,e5,e6⟩:=he;exact key tm1 _ e1 (hA.bX _) e2 e3 e4 e5 e6
theorem VJ {G:AH} {xs:List Itm} {w:AV} (hx:eD G xs w) (hN:xs.length < 2 ^ 50) {tm:List AV} {K:AH} {Z:_} (hX:EvC aa C0 W0 plN rW (tm,K)=Z) (hA:an G K) (hlen:tm.length=19) (h0:tm.getD 0 uA=w) (h1:tm.getD 1 uA=.func (.func 47) [] []) (h7:tm.getD 7 uA=I xs.length) (h8:tm.getD 8 uA=I 0) :
   (fz xs xs.length 0=xs.length->∃ X K1,Z=some (.exit 0,(X,K1))/\X.length=19/\an G K1)/\(fz xs xs.length 0 < xs.length->∃ Y K1,Z=some (.ret,(Y,K1))/\Y.length=19/\Y.getD 4 uA=I (fz xs xs.length 0:Nat)/\an G K1):=by rw [<-hX];exact YT hx hN xs.length 0 tm K (by omega) hA hlen h0 h1 h7 h8
theorem aej {H:AH} {xs:List Itm} {w:AV} (hx:eD H xs w):∃ r K,Ev aa C0 W0 76 [w,.func (.func 47) [] []] H=some (I r,K)/\an H K/\(fz xs xs.length 0=xs.length->r=-1)/\(fz xs xs.length 0 < xs.length->r=(fz xs xs.length 0:Nat)):=by
 obtain ⟨tm,ht,g0,g1,g2⟩:=tm2 w (.func (.func 47) [] []) 19 (by decide);rw [acJ,ht];have hln:=hx.len;have hn:=hx.n;obtain ⟨_,hle,_,_⟩:=Bv xs xs.length 0 (by omega);simp -implicitDefEqProofs only [c76,f76,aP,g0,g1,g2,hln,↓zzC,zzE,sevalprocAttr];generalize hX:EvC aa C0 W0 plN _ _=Z;have hk:=VJ hx hn hX (an.refl H) (by simp only [ls,g0]) (by simp only [g0,g1,gB,sevalprocAttr]) (by simp only [g0,g2,gB,sevalprocAttr]) (by simp only [g0,gB,sevalprocAttr]) (by simp only [g0,gB,sevalprocAttr]);rcases kJ hle with e | e
 · obtain ⟨X,K1,h1,h2,h3⟩:=hk.1 e;refine ⟨-1,K1,?_,h3,fun _=>rfl,fun h=>by omega⟩;simp -implicitDefEqProofs only [h1,h2,↓zzA,zzB,sevalprocAttr]
 · obtain ⟨Y,K1,h1,h2,h3,h4⟩:=hk.2 e;refine ⟨_,K1,?_,h4,fun h=>by omega,fun _=>rfl⟩;simp -implicitDefEqProofs only [h1,h2,h3,↓zzA,zzB,sevalprocAttr]
theorem Own.AK {b es:Nat} {K:AH} {w:AV} {xs new:List AV} {elem:TypeId} (h:Own b K es elem w xs) {o:Nat} (hj:o+new.length<=xs.length) (hn:new≠[]) (ho:new.all AV.one=true) :
   ∃ i k len cap ex K',w=.slice i k es len cap ex/\(∀ L,bj (K++L) i (k+o) new=some (K'++L))/\Own b K' es elem w (spl xs o new)/\K'.length=K.length/\∀ c,c≠i->K'[c]? =K[c]?:=by
 cases h with
 | nil=>exact absurd (by simp at hj; exact hj.2) hn
 | «at» i k len cap ex cs xs hb hi hl hc hrd =>
   have hxl:=pR hrd;have hil:=aI hi;have hm:len * es<=cap * es:=mn _ hl;have hfit:k+o+new.length<=cs.length:=by omega
   refine ⟨i,k,len,cap,ex,_,rfl,fun L=>iF hi hfit ho L,.at i k len cap ex (spl cs (k+o) new) _ hb (by rw [bG hil]) hl (by rw [gr]; exact hc) ?_,aq ..,fun c hc=>List.getElem?_set_ne (Ne.symm hc)⟩;unfold ak at hrd ⊢;rw [hi] at hrd;rw [bG hil];simp only at hrd ⊢;rw [if_pos (by omega)] at hrd;generalize len * es=N at *;have hx:xs=(cs.drop k).take N:=(aB hrd).symm;rw [if_pos (by rw [gr]; omega),iG _ _ _ hfit,iG _ _ _ hj];congr 1;have hxd:xs.take o=(cs.drop k).take o:=by rw [hx,rL,Nat.min_eq_left (by omega)]
   have hxr:xs.drop (o+new.length)=(cs.drop (k+(o+new.length))).take (N - (o+new.length)):=by rw [hx,r9,List.drop_drop]
   rw [hxd,hxr];have hl1:((cs.drop k).take o).length=o:=by rw [dR,List.length_drop]; omega
   rw [aD,aD,List.drop_append_of_le_length (by rw [dR]; omega),r9,show k+o - k=o by omega,wC,hl1,rL,Nat.min_eq_right (by omega),wC,bt (l:=new) (by omega),show N - o - new.length=N - (o+new.length) by omega,show k+o+new.length=k+(o+new.length) by omega]
theorem Own.shorter {b es:Nat} {K:AH} {elem:TypeId} {i k len cap m:Nat} {ex:Bool} {xs:List AV} (h:Own b K es elem (.slice i k es len cap ex) xs) (hm:m<=len):Own b K es elem (.slice i k es m cap ex) (xs.take (m * es)):=by
 cases h with
 | «at» i2 k2 len2 cap2 ex2 cs xs hb hi hl hc hrd =>have hmm:m * es<=len * es:=mn _ hm;refine .at i k m cap ex cs _ hb hi (bh hm hl) hc ?_;have:=AY hrd 0 (m * es) (by omega);rwa [oC,ib] at this
theorem Own.LH {b es:Nat} {K:AH} {elem:TypeId} {i k len cap:Nat} {ex:Bool} {rows:List (List AV)} (hes:0 < es) (h:Own b K es elem (.slice i k es len cap ex) rows.flatten) (hr:∀ r∈rows,r.length=es):rows.length=len:=by have:=h.length;rw [d5 hr,cp] at this;exact Nat.eq_of_mul_eq_mul_right hes this
def AgV (v:AV) (G K:AH):Prop:=G.length<=K.length/\∀ c,c < G.length->cF v≠some c->K[c]? =G[c]?
theorem AgV.of {v:AV} {G K:AH} (h:an G K):AgV v G K:=⟨h.len,fun c hc _=>h c hc⟩
theorem AgV.trans {v:AV} {G K M:AH} (h:AgV v G K) (h2:AgV v K M):AgV v G M:=⟨bh h.1 h2.1,fun c hc hn=>by rw [h2.2 c (bF hc h.1) hn,h.2 c hc hn]⟩
theorem AgV.abE {v:AV} {G K:AH} (h:AgV v G K):Sub (bU v G) (bU v K):=fun i o hi ho=>by
 have hne:cF v≠some i:=fun e=>(mU (K:=G) e).ne hi ho rfl
 rw [dD hne] at hi
 rw [dD hne,h.2 i (aI hi) hne]; exact hi
theorem C9 {P:Program} {C:Cfg P} {slot:Option Nat} {ev:Operand->Option AV} {H:AH} (o:Oper) (x:Operand) (t:TypeId):gk P C slot ev o ⟨.builtin .clear,#[x],#[t]⟩ H=(ev x).bind fun v=>(vu P t v H).map fun H'=>(.val (.tuple []),H'):=by unfold gk; simp only [evL]; cases ev x <;> rfl
theorem BR (zs:List AV) (n:Nat):(ly zs n).length=n:=by unfold ly; simp
theorem Jm {zs:List AV} (h:zs≠[]) (ho:zs.all AV.one=true) (n:Nat):(ly zs n).all AV.one=true:=by
 unfold ly;rw [List.all_eq_true] at ho ⊢;intro x hx;obtain ⟨j,_,rfl⟩:=List.mem_map.1 hx;have hl:0 < zs.length:=by cases zs with | nil=>exact absurd rfl h | cons a l=>simp
 exact ho _ (eF (Nat.mod_lt _ hl) _)
theorem Ps (H:AH) {i k l c n:Nat} {e:Bool} (h:n<=l) (hc:l<=c):ko aa 31 H (.slice i k 9 l c e) (some (I n)) none none=some (.slice i (k+n * 9) 9 (l - n) (c - n) e):=by
 have hu:aa.underlying 31=some (.slice 34):=by kernel_rfl
 have h9:aa.cellsOf 34=9:=by kernel_rfl
 have hin:aa.info? 34=some ((aa.info? 34).getD default):=by kernel_rfl
 unfold ko;rw [hu];simp only [iu,vH,if_true,cN];rw [if_pos ⟨h,hc,h9⟩,hin]; rfl
theorem FN (H:AH) {i k l c n:Nat} {e:Bool} (h:n<=c):ko aa 31 H (.slice i k 9 l c e) none (some (I n)) none=some (.slice i k 9 n c e):=by
 have hu:aa.underlying 31=some (.slice 34):=by kernel_rfl
 have h9:aa.cellsOf 34=9:=by kernel_rfl
 have hin:aa.info? 34=some ((aa.info? 34).getD default):=by kernel_rfl
 unfold ko;rw [hu];simp only [iu,vH,if_true,cN];rw [if_pos ⟨aV _,h,h9⟩,hin];simp only [cH,Nat.zero_mul,oC,Nat.sub_zero]
def fQ (p:Itm × AV):Bool:=!eqB p.1.kind 0
theorem Rz {b:Nat} {K:AH} {i k n m c:Nat} {e:Bool} {xs:List AV} (h:Own b K 9 34 (.slice i k 9 n c e) xs) (hm:m<=n):∃ K',(∀ L,vu aa 31 (.slice i (k+m * 9) 9 (n - m) (c - m) e) (K++L)=some (K'++L))/\Own b K' 9 34 (.slice i k 9 m c e) (xs.take (m * 9))/\K'.length=K.length/\∀ x,x≠i->K'[x]? =K[x]?:=by
 have hel:gh aa 31=some 34:=by kernel_rfl
 have h9:aa.cellsOf 34=9:=by kernel_rfl
 have hxl:=h.length;rw [cp] at hxl;unfold vu;simp only [hel,sK,ax,h9,AV.cells,cR,gH,Nat.reduceAdd,ne_eq,reduceCtorEq,not_false_eq_true,and_self,if_true];rcases kJ hm with e2 | e2
 · refine ⟨K,fun L=>?_,?_,rfl,fun _ _=>rfl⟩
   · rw [if_pos (by omega)]
   · exact h.shorter hm
 · have hsz:m * 9+(ly [I 0,I 0,I 0,I 0,I 0,I 0,I 0,.nilSlice,.int .i32 0] ((n - m) * 9)).length<=xs.length:=by rw [BR,hxl,<-Nat.add_mul]; omega
   obtain ⟨i2,k2,len2,cap2,ex2,K',e3,hwr,hown,hlen,hoth⟩:=h.AK hsz (fun e4=>by have:=congrArg ew e4; rw [BR,gH] at this; omega) (Jm (by simp) rfl _);cases e3;refine ⟨K',fun L=>?_,?_,hlen,hoth⟩
   · rw [if_neg (by omega)]; exact hwr L
   · have:=hown.shorter hm;rw [iG _ _ _ hsz,aD,List.take_append_of_le_length (by rw [dR]; omega),rL,Nat.min_self] at this;exact this
theorem aaB {K0:AH} {l:List (Itm × AV)} {v:AV} {b:Nat} (hvl:∀ G,d4 aa 31 G v=some (I l.length)) (hargs:∀ p∈l,SlS 32 1 (bU v K0) p.2 (p.1.args.map dH)) (hN:l.length < 2 ^ 60):∀ (d j:Nat) (tm:List AV) (K:AH) (Z:Option (bk × St)),EvC aa C0 W0 plN SM (tm,K)=Z->l.length - j=d->j<=l.length->(tm.length=42/\tm.getD 0 uA=v/\tm.getD 1 uA=.func (.func 47) [] []/\tm.getD 6 uA=I ((j:Nat):Int)/\AgV v K0 K/\∃ zs:List (List AV),tm.getD 5 uA=I (((l.take (j)).filter fQ).length:Nat)/\(∀ r∈zs,r.length=9)/\((l.take (j)).filter fQ).length+zs.length=j/\Own b K 9 34 v (((l.take (j)).filter fQ).map fC++(zs++(l.drop (j)).map fC)).flatten) ->
   ∃ X K1,Z=some (.exit 0,(X,K1))/\(X.length=42/\X.getD 0 uA=v/\X.getD 1 uA=.func (.func 47) [] []/\X.getD 6 uA=I ((l.length:Nat):Int)/\AgV v K0 K1/\∃ zs:List (List AV),X.getD 5 uA=I (((l.take (l.length)).filter fQ).length:Nat)/\(∀ r∈zs,r.length=9)/\((l.take (l.length)).filter fQ).length+zs.length=l.length/\Own b K1 9 34 v (((l.take (l.length)).filter fQ).map fC++(zs++(l.drop (l.length)).map fC)).flatten):=by
 intro d;induction d with
 | zero =>
   intro j tm K Z hZ hd hj hI;subst hZ;have hjl:j=l.length:=by omega
   subst hjl;have hI0:=hI;obtain ⟨hlen,h0,h1,h6,hA,zs,h5,hz,hzl,ho⟩:=hI;have hlt:ltB (((l.length:Nat)):Int) (l.length:Nat)=false:=cw (by omega);have hln:=hvl;rw [Np];simp -implicitDefEqProofs only [DB,f45,aP,hlen,h0,h1,h6,h5,hlt,↓hln,↓zzA,zzB,sevalprocAttr];refine ⟨_,K,rfl,?_⟩;exact ⟨by simp only [ls,hlen],Aj3 (by simp only [hlen,h0,h1,h6,gB,and_self,sevalprocAttr]) ⟨hA,zs,by simp only [hlen,h5,gB,sevalprocAttr],hz,hzl,ho⟩⟩
 | succ d ih =>
   intro j tm K Z hZ hd hj hI;subst hZ;have hI0:=hI;obtain ⟨hlen,h0,h1,h6,hA,zs,h5,hz,hzl,ho⟩:=hI;have hjN:j < l.length:=by omega
   have hlt:ltB (j:Int) (l.length:Nat)=true:=cu (by omega);have hw:=b6 (j:=j) (by omega);have hln:=hvl;have hdr:l.drop j=l[j]::l.drop (j+1):=g7 hjN;have htk:l.take (j+1)=l.take j++[l[j]]:=by rw [ez,aj hjN]; rfl
   have hpm:l[j]∈l:=List.getElem_mem hjN;generalize l[j]=p at *;have hrow:∀ r∈((l.take j).filter fQ).map fC++(zs++(l.drop j).map fC),r.length=9:=fun r hr=>by
     rcases cA.1 hr with h | h
     · exact fu _ r h
     · rcases cA.1 h with h | h
       · exact hz r h
       · exact fu _ r h
   have hsl:=Own.mJ mV (by decide) ho hrow;obtain ⟨i1,k1,hix,hrd⟩:=hsl.ix j (fC p) (by rw [al (by rw [ao]; omega),ao,al (by omega),show j - ((l.take j).filter fQ).length - zs.length=0 by omega,hdr]; rfl);rw [hdr] at ho hrow;have ha:=hargs p hpm;have hac:=ha.cells;have hao:=ha.one;have h47:=fun L=>aag (H:=K) (x:=p.1) hac hao L;rw [fI] at ho hrow;obtain ⟨x,va⟩:=p;have hrd:=fun L=>(an.app K L).sub.rd hrd;simp only [fC,aJ] at hrd h47 hac hao;rw [Np];rw [<-af K];cases hk:eqB x.kind 0 with
   | true =>
     simp -implicitDefEqProofs only [DB,f45,aP,hlen,h0,h1,h6,h5,hlt,hw,sK,ed,hix,hrd,↓hac,↓hao,↓aS,func47,show f47.body.isSome=true from rfl,h47,hk,↓hln,↓zzC,zzE,sevalprocAttr];generalize hX:EvC aa C0 W0 _ _ _=Z;refine ih (j+1) _ _ _ hX (by omega) (by omega) ?_;have hkp:[((x,va):Itm × AV)].filter fQ=[]:=by simp only [FE,fQ,hk,Bool.not_true]
     rw [htk,m9,hkp,af];exact ⟨by simp only [ls,hlen],Aj3 (by simp only [hlen,h0,h1,gB,and_self,sevalprocAttr]) ⟨hA.trans (AgV.of (an.app K _)),zs++[fC (x,va)],by simp only [hlen,h5,gB,sevalprocAttr],fun r hr=>(by
       rcases cA.1 hr with h | h
       · exact hz r h
       · rw [bJ] at h; subst h; rfl),by rw [ai,eM]; omega,by
       have:=ho.aZ (an.app K [bm.cells (aJ x va) 34,bm.cells (aJ x va) 34]);rw [aD];exact this⟩⟩
   | false =>
     have hkp:[((x,va):Itm × AV)].filter fQ=[(x,va)]:=by simp only [FE,fQ,hk,Bool.not_false]
     have hwi:=b6 (j:=((l.take j).filter fQ).length) (by omega);have hone:(aJ x va).all AV.one=true:=by show (AV.one _ && (AV.one _ && (AV.one _ && (AV.one _ && (AV.one _ && (AV.one _ && (AV.one _ && (AV.one _ && (AV.one _ && true)))))))))=true;rw [hao]; rfl
     have hAl:(((l.take j).filter fQ).map fC).flatten.length=((l.take j).filter fQ).length * 9:=by rw [d5 (fu _),ao]
     have hsz:(((l.take j).filter fQ).map fC).flatten.length+(aJ x va).length<=(((l.take j).filter fQ).map fC++(zs++(fC (x,va)::(l.drop (j+1)).map fC))).flatten.length:=by rw [gF,ai,gF,ai,List.flatten_cons,ai];have h1:(fC (x,va)).length=9:=rfl;have h2:(aJ x va).length=9:=rfl;omega
     obtain ⟨i,k,len,cap,ex,K',hv,hwr,hown,hlK,hoth⟩:=Own.AK ho hsz (new:=aJ x va) (by simp [aJ]) hone;have hlen9:(((l.take j).filter fQ).map fC++(zs++(fC (x,va)::(l.drop (j+1)).map fC))).length=len:=by rw [hv] at ho;exact ho.LH (by decide) hrow
     have hix2:∀ kk,aC aa 31 v (.int kk (((l.take j).filter fQ).length:Nat))=some (.ptr i (k+((l.take j).filter fQ).length * 9)):=fun kk=>by rw [hv,mV.ia,if_pos ⟨by omega,by rw [<-hlen9,ai,ao,ai,cR]; omega,rfl⟩]; rfl
     rw [hAl] at hwr hown;simp only [aJ] at hwr;have hspl:spl (((l.take j).filter fQ).map fC++(zs++(fC (x,va)::(l.drop (j+1)).map fC))).flatten (((l.take j).filter fQ).length * 9) (aJ x va)=(((l.take j).filter fQ).map fC++(fC (x,va)::(zs++[fC (x,va)]).tail++(l.drop (j+1)).map fC)).flatten:=by
       show spl _ _ (fC (x,va))=_;cases zs with
       | nil=>exact xH (A:=((l.take j).filter fQ).map fC) hAl rfl
       | cons z zs =>have:=xH (A:=((l.take j).filter fQ).map fC) (r:=z) (r':=fC (x,va)) (B:=zs++(fC (x,va)::(l.drop (j+1)).map fC)) hAl (by rw [hz z (by simp)]; rfl);simpa only [List.cons_append,List.tail_cons,aD,List.nil_append] using this
     rw [hspl] at hown;simp -implicitDefEqProofs only [DB,f45,aP,hlen,h0,h1,h6,h5,hlt,hw,sK,ed,hix,hrd,↓hac,↓hao,↓aS,func47,show f47.body.isSome=true from rfl,h47,hk,↓hln,hwi,hix2,hwr,ed,↓zzC,zzE,sevalprocAttr];generalize hX:EvC aa C0 W0 _ _ _=Z;refine ih (j+1) _ _ _ hX (by omega) (by omega) ?_;rw [htk,m9,hkp];exact ⟨by simp only [ls,hlen],Aj3 (by simp only [hlen,h0,h1,gB,and_self,sevalprocAttr]) ⟨hA.trans ⟨by rw [ai,hlK]; omega,fun c hc hn=>by
         rw [ar (by rw [hlK]; exact hc)]
         exact hoth c fun e=>hn (by rw [hv,e]; rfl)⟩,(zs++[fC (x,va)]).tail,by
         rw [ai,eM]
         simp only [hlen,gB,sevalprocAttr],fun r hr=>(by
       rcases cA.1 (List.mem_of_mem_tail hr) with h | h
       · exact hz r h
       · rw [bJ] at h; subst h; rfl),by rw [ai,eM,List.length_tail,ai,eM]; omega,by
       have:=hown.aZ (an.app K' [bm.cells (aJ x va) 34,bm.cells (aJ x va) 34])
       rw [dE,aD]
       exact this⟩⟩
theorem CB:∀ (l:List (Itm × AV)),(∀ i,i < l.length->eqB (bo (l.map (·.1)) i).kind 0=false)->l.filter fQ=l:=by intro l h;rw [List.filter_eq_self];intro p hp;obtain ⟨i,hi,rfl⟩:=List.getElem_of_mem hp;have:=h i hi;unfold fQ;rw [show (l[i]).1=bo (l.map (·.1)) i from ?_,this]; rfl;unfold bo;rw [gde,aO,aj hi]; rfl
theorem Iv {l:List (Itm × AV)} {f:Nat} (hf:f < l.length) (h:∀ i,i < f->eqB (bo (l.map (·.1)) i).kind 0=false) (h2:eqB (bo (l.map (·.1)) f).kind 0=true):(l.take (f+1)).filter fQ=l.take f:=by
 have ht:l.take (f+1)=l.take f++[l[f]]:=by rw [ez,aj hf]; rfl
 rw [ht,m9,CB (l.take f) fun i hi=>?_]
 · have:fQ l[f]=false:=by
     unfold fQ
     rw [show (l[f]).1=bo (l.map (·.1)) f from ?_,h2]; rfl
     unfold bo
     rw [gde,aO,aj hf]; rfl
   simp [this]
 · rw [dR] at hi;rw [<-h i (by omega)];unfold bo;rw [gde,gde,aO,aO,List.getElem?_take_of_lt (by omega)]
theorem Own.shN {b es:Nat} {K:AH} {elem:TypeId} {v:AV} {xs:List AV} (h:Own b K es elem v xs) (hn:xs≠[]):∃ i k len cap ex,v=.slice i k es len cap ex/\len<=cap:=by
 cases h with
 | nil=>exact absurd rfl hn
 | «at» i k len cap ex cs xs hb hi hl hc hrd=>exact ⟨i,k,len,cap,ex,rfl,hl⟩
theorem aeD {K:AH} {l:List (Itm × AV)} {v:AV} {b:Nat} (ho:Own b K 9 34 v (l.map fC).flatten) (hI:eD K (l.map (·.1)) v) (hargs:∀ p∈l,SlS 32 1 (bU v K) p.2 (p.1.args.map dH)) :
   ∃ v' K',Ev aa C0 W0 45 [v,.func (.func 47) [] []] K=some (v',K')/\AgV v K K'/\cF v'=cF v/\Own b K' 9 34 v' ((l.filter fQ).map fC).flatten:=by
 obtain ⟨r,K1,h76,hA1,hr1,hr2⟩:=aej hI;obtain ⟨_,hf2,hf3,hf4⟩:=Bv (l.map (·.1)) (l.map (·.1)).length 0 (by omega);have hln0:=hI.n;generalize fz (l.map (·.1)) (l.map (·.1)).length 0=f at *;rw [ao] at *;have hvl:∀ G,d4 aa 31 G v=some (I l.length):=fun G=>by have:=(ho.mJ mV (by decide) (fu l)).len G;rwa [ao] at this
 obtain ⟨tm,ht,g0,g1,g2⟩:=tm2 v (.func (.func 47) [] []) 42 (by decide);rw [ac9,ht];rcases kJ hf2 with e | e
 · have hr:=hr1 e;subst hr;have hq:eqB (-1) (-1)=true:=rfl;simp -implicitDefEqProofs only [c45,f45,aP,g0,g1,g2,h76,hq,↓ZD,↓zzC,zzE,sevalprocAttr];refine ⟨_,K1,rfl,AgV.of hA1,rfl,?_⟩;rw [CB l fun i hi=>hf3 i (by omega) (by omega)];exact ho.aZ hA1
 · have hr:=hr2 e;subst hr;have hq:eqB (f:Int) (-1)=false:=fR (by omega);have hwf:=b6 (j:=f) (by omega);simp -implicitDefEqProofs only [c45,f45,aP,g0,g1,g2,h76,hq,hwf,↓ZD,↓zzC,zzE,sevalprocAttr];generalize hX:EvC aa C0 W0 plN _ _=Z;have hkh:=Iv e (fun i hi=>hf3 i (by omega) hi) (hf4 e);have hlt:(l.take f).length=f:=by rw [dR]; omega
   have hdr:l.drop f=l[f]::l.drop (f+1):=g7 e;have hD:=aaB (K0:=K1) (b:=b) hvl (fun p hp=>(hargs p hp).sub (AgV.of hA1).abE) (by omega) _ (f+1) _ _ _ hX rfl (by omega) ⟨by simp only [ls,g0],Aj3 (by simp only [g0,g1,g2,gB,and_self,sevalprocAttr]) ⟨AgV.of (an.refl K1),[fC l[f]],by rw [hkh,hlt]; simp only [g0,gB,sevalprocAttr],fun r hr=>by rw [bJ] at hr; subst hr; rfl,by rw [hkh,hlt]; rfl,by rw [hkh];have h1:=ho.aZ hA1;rw [<-List.take_append_drop f l,hdr,dE,fI] at h1;exact h1⟩⟩;obtain ⟨X,K2,he,x0,x1,x2,x6,xA,zs,x5,hz,hzl,hown⟩:=hD;subst he;rw [gg,List.drop_length,List.map_nil,af] at hown;rw [gg] at x5 hzl;obtain ⟨i,k,len,cap,ex,hv,hcap⟩:=hown.shN (by
     intro h;have:=congrArg ew h;rw [d5 (es:=9) fun r hr=>?_,ai,ao,hzl,gH] at this
     · omega
     · rcases cA.1 hr with h | h
       · exact fu _ r h
       · exact hz r h)
   subst hv;have hrr:∀ r∈(l.filter fQ).map fC++zs,r.length=9:=fun r hr=>by
     rcases cA.1 hr with h | h
     · exact fu _ r h
     · exact hz r h
   have hle:=hown.LH (by decide) hrr;rw [ai,ao,hzl] at hle;subst hle;have hm:(l.filter fQ).length<=l.length:=by omega
   obtain ⟨K3,hcl,hown3,hl3,ho3⟩:=Rz hown hm;have hcl0:=hcl [];rw [af,af] at hcl0;have s1:=fun H=>Ps H (i:=i) (k:=k) (e:=ex) hm hcap;have s2:=fun H=>FN H (i:=i) (k:=k) (l:=l.length) (e:=ex) (bh hm hcap);simp -implicitDefEqProofs only [x0,x1,x2,x5,x6,s1,s2,hcl0,↓C9,↓zzC,zzE,sevalprocAttr];refine ⟨_,K3,rfl,(AgV.of hA1).trans (xA.trans ⟨by omega,fun c hc hn=>ho3 c fun e2=>hn (by rw [e2]; rfl)⟩),rfl,?_⟩;rw [gF,List.take_left' (by rw [d5 (fu _),ao])] at hown3;exact hown3
def iv1 (l:List Nat):List AV:=l.map fun (n:Nat)=>I (n:Int)
def Ex (K:AH) (es:Nat) (elem:TypeId) (v:AV) (xs:List AV):Prop:=(v=.nilSlice/\xs=[])∨∃ i n,v=.slice i 0 es n n false/\K[i]? =some (.cells xs elem)/\xs.length=n * es
theorem Ex.rd {K:AH} {es i n:Nat} {elem:TypeId} {xs:List AV} (h:K[i]? =some (.cells xs elem)) (hl:xs.length=n * es):ak K i 0 (n * es)=some xs:=by unfold ak;rw [h];simp only;rw [if_pos (by omega),ib,bt (by omega)]
theorem Ex.own {K:AH} {es:Nat} {elem:TypeId} {v:AV} {xs:List AV} (h:Ex K es elem v xs):Own 0 K es elem v xs:=by
 rcases h with ⟨rfl,rfl⟩ | ⟨i,n,rfl,hi,hl⟩
 · exact .nil
 · exact .at i 0 n n false xs xs (aV _) hi (aw _) (by omega) (Ex.rd hi hl)
theorem Ex.cells {K:AH} {es:Nat} {elem:TypeId} {v:AV} {xs:List AV} (h:Ex K es elem v xs):v.cells=[v]/\v.one=true:=h.own.cells
theorem Ex.lt {K:AH} {es:Nat} {elem:TypeId} {v:AV} {xs:List AV} (h:Ex K es elem v xs) {i:Nat} (hv:cF v=some i):i < K.length:=(gX h.own hv).2
theorem Ex.lQ {K K':AH} {es:Nat} {elem:TypeId} {v:AV} {xs:List AV} (h:Ex K es elem v xs) (hk:∀ i,cF v=some i->K'[i]? =K[i]?):Ex K' es elem v xs:=by
 rcases h with h | ⟨i,n,rfl,hi,hl⟩
 · exact .inl h
 · exact .inr ⟨i,n,rfl,by rw [hk i rfl]; exact hi,hl⟩
theorem Ex.lenOf {K:AH} {es:Nat} {elem:TypeId} {v:AV} {xs:List AV} (h:Ex K es elem v xs):xs.length=bL v * es:=h.own.length
theorem qo {sT elem:TypeId} {xT:Option TypeId} {es B:Nat} (T:pC aa sT xT elem es) (hes:0 < es) {K:AH} (hB:K.length=B) {v:AV} {xs:List AV} (h:Ex K es elem v xs) {new:List AV} (hn:new.length=es) (hone:new.all AV.one=true) (hg:gf (aa.bytesOf elem) (bL v+1)=true)
   (s q:Nat) (L:AH) (hs:L[s]? =some .fresh) (hq:L[q]? =some (.cells new elem)) :
   fV aa (some (B+s)) sT xT v (.slice (B+q) 0 es 1 1 true) (K++L)=some (.slice (B+s) 0 es (bL v+1) (bL v+1) false,bU v K++L.set s (.cells (xs++new) elem)):=by
 obtain ⟨z,hz,hzl,hzn⟩:=T.z;have hgq:(K++L)[B+q]? =some (.cells new elem):=by rw [al (by omega),<-hB,Nat.add_sub_cancel_left]; exact hq
 have hrd:ak (K++L) (B+q) 0 (1 * es)=some new:=Ex.rd hgq (by omega);unfold fV;rw [if_neg (by rw [T.x]; simp),T.el,ax,hz,ax,T.sz];simp only [pL,if_true,ax,aw,hrd];rw [if_pos ⟨by rw [hzl,T.sz],hzn⟩];have hput:∀ (K1:AH) o,K1.length=B->put (some (B+s)) (K1++L) o=some (B+s,K1++L.set s o):=fun K1 o hl=>by unfold put;simp only;rw [al (by omega),show B+s - K1.length=s by omega,hs];simp only;rw [List.set_append_right _ _ (by omega),show B+s - K1.length=s by omega]
 rcases h with ⟨rfl,rfl⟩ | ⟨i,n,rfl,hi,hl⟩
 · simp only [Nat.one_ne_zero,if_false,oW,Nat.zero_add] at hg ⊢;rw [if_pos hg,hput K _ hB]; rfl
 · have hiK:=aI hi;simp only [cp] at hg ⊢;rw [if_pos trivial,if_neg (by omega),if_neg (by omega),if_neg (by simp),ar hiK,hi];simp only;rw [if_pos ⟨trivial,hone,hg⟩,Ex.rd (by rw [ar hiK]; exact hi) hl,ax,List.set_append_left _ _ hiK,hput _ _ (by rw [aq]; exact hB)]; rfl
abbrev OS:=AV × Nat × TypeId × List AV
structure qp (S K:AH) (X:List Nat) (f:Nat->Nat->OS):Prop where
 sl:S.length<=K.length
 xl:∀ x∈X,x < K.length
 ex:∀ a i,Ex K (f a i).2.1 (f a i).2.2.1 (f a i).1 (f a i).2.2.2
 dis:∀ a i c j,¬(a=c/\i=j)->∀ b,cF (f a i).1=some b->cF (f c j).1≠some b
 own:∀ a i b,cF (f a i).1=some b->lL S b/\b∉X
def HF (f:Nat->Nat->OS) (a i:Nat) (e:OS):Nat->Nat->OS:=fun c j=>if c=a/\j=i then e else f c j
theorem qp.upd {S K:AH} {X:List Nat} {f:Nat->Nat->OS} (h:qp S K X f) (a i:Nat) {K':AH} {e:OS} (he:Ex K' e.2.1 e.2.2.1 e.1 e.2.2.2) (hb:∀ b,cF e.1=some b->cF (f a i).1=some b∨K.length<=b) (hl:K.length<=K'.length)
   (hK:∀ b,b < K.length->cF (f a i).1≠some b->K'[b]? =K[b]?):qp S K' X (HF f a i e) where
 sl:=bh h.sl hl
 xl:=fun x hx=>bF (h.xl x hx) hl
 ex:=fun c j=>by
   unfold HF
   split
   · exact he
   · rename_i hne
     exact (h.ex c j).lQ fun b hb=>hK b ((h.ex c j).lt hb) (h.dis c j a i hne b hb)
 dis:=fun a1 i1 c j hne b hb1 hb2=>by
   unfold HF at hb1 hb2
   split at hb1
   · rename_i e1
     split at hb2
     · rename_i e2; exact hne ⟨e1.1.trans e2.1.symm,e1.2.trans e2.2.symm⟩
     · rename_i e2
       rcases hb b hb1 with h1 | h1
       · exact h.dis a i c j (fun x=>e2 ⟨x.1.symm,x.2.symm⟩) b h1 hb2
       · have:=(h.ex c j).lt hb2; omega
   · rename_i e1
     split at hb2
     · rcases hb b hb2 with h1 | h1
       · exact h.dis a1 i1 a i e1 b hb1 h1
       · have:=(h.ex a1 i1).lt hb1; omega
     · exact h.dis a1 i1 c j hne b hb1 hb2
 own:=fun c j b hb1=>by
   unfold HF at hb1
   split at hb1
   · rcases hb b hb1 with h1 | h1
     · exact h.own a i b h1
     · exact ⟨tJ (bh h.sl h1),fun hx=>by have:=h.xl b hx; omega⟩
   · exact h.own c j b hb1
theorem qp.same {S K:AH} {X:List Nat} {f:Nat->Nat->OS} (h:qp S K X f) {K':AH} (hl:K.length<=K'.length) (hK:∀ b,b < K.length->b∉X->K'[b]? =K[b]?):qp S K' X f where
 sl:=bh h.sl hl
 xl:=fun x hx=>bF (h.xl x hx) hl
 ex:=fun c j=>(h.ex c j).lQ fun b hb=>hK b ((h.ex c j).lt hb) (h.own c j b hb).2
 dis:=h.dis
 own:=h.own
theorem qp.congr {S K:AH} {X:List Nat} {f g:Nat->Nat->OS} (h:qp S K X f) (e:∀ a i,g a i=f a i):qp S K X g:=by have:g=f:=funext fun a=>funext fun i=>e a i;rw [this]; exact h
def rD (S:AH) (n:Nat) (o:bm):AH:=S++List.replicate (n - S.length) .dead++[o]
theorem Cq {S:AH} {n:Nat} {o:bm} (h:S.length<=n):(rD S n o).length=n+1:=by unfold rD; simp; omega
theorem uN {S:AH} {n:Nat} {o:bm} (h:S.length<=n):(rD S n o)[n]? =some o:=by unfold rD;rw [al (by simp; omega)];simp only [ai,List.length_replicate];rw [show n - (S.length+(n - S.length))=0 by omega]; rfl
theorem nZ {S:AH} {n:Nat} {o:bm}:an S (rD S n o):=fun i hi=>by
 unfold rD
 rw [aD,ar hi]
theorem uO {S:AH} {n i:Nat} {o:bm} (hS:S.length<=n) (h:lL S i) (hi:i < n):lL (rD S n o) i:=by
 rcases bc i S.length with c | c
 · unfold lL;rw [nZ i c]; exact h
 · right;unfold rD;rw [ar (by simp; omega),al c,kL,if_pos (by omega)]
theorem QD {S K:AH} {o:bm} (hS:S.length<=K.length) (h:Sub S K):Sub (rD S K.length o) (K++[o]):=fun i x hi hx=>by
 have hil:=aI hi
 rw [Cq hS] at hil
 rcases bc i K.length with c | c
 · rw [ar c]
   rcases bc i S.length with d | d
   · rw [nZ i d] at hi; exact h i x hi hx
   · unfold rD at hi
     rw [ar (by simp; omega),al d,kL,if_pos (by omega)] at hi
     cases hi; exact absurd rfl hx
 · have:i=K.length:=by omega
   subst this
   rw [uN hS] at hi
   rw [al (aw _),Nat.sub_self]; exact hi
theorem qp.pad {S K:AH} {X:List Nat} {f:Nat->Nat->OS} (h:qp S K X f) (o:bm):qp (rD S K.length o) (K++[o]) X f where
 sl:=by rw [Cq h.sl,ai]; exact aw _
 xl:=fun x hx=>by rw [ai]; exact bF (h.xl x hx) (Nat.le_add_right _ _)
 ex:=fun c j=>(h.ex c j).lQ fun b hb=>ar ((h.ex c j).lt hb)
 dis:=h.dis
 own:=fun c j b hb=>⟨uO h.sl (h.own c j b hb).1 ((h.ex c j).lt hb),(h.own c j b hb).2⟩
end Go.Dv
