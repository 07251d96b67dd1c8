/- Part 43 of the walks (own work). -/
import Derived.Test.YtilpjnckfkjkbaaGreatDoorU42
import Derived.WalkKit
import Derived.ProofKit
import Derived.OpenShut
import Derived.SizedLaws
open Array renaming getElem?_eq_some_iff→zo
open List renaming append_assoc→aD,append_nil→af,getElem?_append_left→ar,getElem?_append_right→al,getElem?_eq_getElem→aj,getElem?_map→aO,length→ew,length_filter_le→gW,length_map→ao,length_take→dR,map_append→dE,map_cons→fI,map_map→pD,mem_append→cA,mem_cons_of_mem→jy,mem_cons_self→ki,mem_filter→fm,mem_map→bI,mem_singleton→bJ,replicate→au,take_add_one→ez,take_length→gg
open Nat renaming le_refl→aw,lt_or_ge→bc,zero_le→aV
open Option renaming bind_eq_some_iff→ae,map_eq_some_iff→ah,toList_some→rH
open Go.Proofs.Tryz renaming prog→aa
set_option maxRecDepth 100000
set_option maxHeartbeats 4000000
set_option linter.unusedSimpArgs false
set_option linter.unusedVariables false
open Go.Proofs.Tryz (f21 f5)
namespace Go.Dv
open Go.Proofs
attribute [local congr] aA bC aT bB bD
def p34 (x:Itm):Bool:=eqB x.kind 3 || eqB x.kind 4
def wtS (ss:List (List Itm)):List (List Itm):=ss.map (·.filter p34)
def DV (G K0 K:AH) (xs:List Itm) (j:Nat) (v:AV):Prop:=∃ l:List (Itm × AV),l.map (·.1)=(xs.take j).filter p34/\(∀ p∈l,SlS 32 1 G p.2 (p.1.args.map dH))/\Own K0.length K 9 34 v (flR l).flatten
theorem vK {xs:List Itm} {j:Nat} (hj:j < xs.length):(xs.take (j+1)).filter p34=(xs.take j).filter p34++if p34 (bo xs j) then [bo xs j] else []:=by rw [ez,tC hj,List.filter_append];refine congrArg (fun z=>List.filter p34 (xs.take j)++z) ?_;simp only [rH,List.filter_cons,List.filter_nil]
theorem DV.abW {G K0 K K':AH} {xs:List Itm} {j:Nat} {v:AV} (hj:j < xs.length) (h:DV G K0 K xs j v) (hA:an K K') (hp:p34 (bo xs j)=false):DV G K0 K' xs (j+1) v:=by obtain ⟨l,h1,h2,h3⟩:=h;refine ⟨l,?_,h2,h3.aZ hA⟩;rw [vK hj,hp,h1];simp
theorem RP {G K0 K:AH} {xs:List Itm} {j:Nat} {v va:AV} (hj:j < xs.length) (hxl:xs.length<=1000) (hA:an K0 K) (h:DV G K0 K xs j v) (hp:p34 (bo xs j)=true) (hs:SlS 32 1 G va ((bo xs j).args.map dH)) :
   ∃ v' K',fV aa none 31 (some 31) v (.slice (K.length+1) 0 9 1 1 true) (K++[.cells (aJ (bo xs j) va) 34,.cells (aJ (bo xs j) va) 34])=some (v',K')/\an K0 K'/\DV G K0 K' xs (j+1) v':=by
 obtain ⟨l,h1,h2,h3⟩:=h;have hll:=h3.length;have hl1:=congrArg ew h1;rw [ao] at hl1;have hl2:=gW p34 (xs.take j);rw [dR] at hl2;rw [d5 (Gm l),flR,ao] at hll;have hrow:Row (K++[.cells (aJ (bo xs j) va) 34,.cells (aJ (bo xs j) va) 34]) 9 (.slice (K.length+1) 0 9 1 1 true) (aJ (bo xs j) va):=.at _ _ _ _ _ _ (by rw [jE]; rfl);obtain ⟨v',K',he,h4,h5,_,_⟩:=ze Hp (hA.bX _) (h3.aZ (an.app _ _)) hrow (B6 hs.one) (gY b34 (by rw [cp]; omega));refine ⟨v',K',he,h4,l++[(bo xs j,va)],?_,?_,?_⟩
 · rw [dE,h1,vK hj,hp]; rfl
 · intro p hpm;rcases cA.1 hpm with h | h
   · exact h2 p h
   · rw [bJ] at h; subst h; exact hs
 · have e:(flR (l++[(bo xs j,va)])).flatten=(flR l).flatten++aJ (bo xs j) va:=by unfold flR; rw [dE,List.flatten_append]; simp
   rw [e]; exact h5
theorem T8 {G K0:AH} {ss:List (List Itm)} {vs lv:AV} {i:Nat} (hs:cT G ss vs) (hG:an G K0) (hi:i < ss.length) (hxl:(aM ss i).length<=1000):∀ (d j:Nat) (tm:List AV) (K:AH) (Z:Option (bk × St)),EvC aa C0 W0 plN Tb (tm,K)=Z->(aM ss i).length - j=d->j<=(aM ss i).length->(tm.length=61/\tm.getD 0 uA=vs/\tm.getD 3 uA=lv/\tm.getD 4 uA=I (i:Int)/\tm.getD 6 uA=I ((j:Nat):Int)/\an K0 K/\∃ v,tm.getD 5 uA=v/\DV G K0 K (aM ss i) (j) v) ->
   ∃ X K1,Z=some (.exit 2,(X,K1))/\(X.length=61/\X.getD 0 uA=vs/\X.getD 3 uA=lv/\X.getD 4 uA=I (i:Int)/\X.getD 6 uA=I (((aM ss i).length:Nat):Int)/\an K0 K1/\∃ v,X.getD 5 uA=v/\DV G K0 K1 (aM ss i) ((aM ss i).length) v):=by
 intro d;induction d with
 | zero =>
   intro j tm K Z hZ hd hj hI;subst hZ;have hjl:j=(aM ss i).length:=by omega
   subst hjl;obtain ⟨hlen,h0,h3,h4,h6,hA,v,h5,hv⟩:=hI;have hlt:ltB (((aM ss i).length:Nat):Int) ((aM ss i).length:Nat)=false:=cw (by omega);obtain ⟨i0,k0,w0,hix,hrd,hx⟩:=hs.at (hG.trans hA) hi;have hrd:=hrd [];have hln:=hx.len;rw [af] at hrd;rw [NQ];simp -implicitDefEqProofs only [AA,f21,aP,hlen,h0,h3,h4,h6,h5,hix,hrd,hln,hlt,↓zzC,zzE,sevalprocAttr];exact ⟨_,K,rfl,by simp only [ls,hlen],Aj4 (by simp only [hlen,h0,h3,h4,h6,gB,and_self,sevalprocAttr]) ⟨hA,v,by simp only [hlen,h5,gB,sevalprocAttr],hv⟩⟩
 | succ d ih =>
   intro j tm K Z hZ hd hj hI;subst hZ;have hjN:j < (aM ss i).length:=by omega
   obtain ⟨hlen,h0,h3,h4,h6,hA,v,h5,hv⟩:=hI;have hlt:ltB (j:Int) ((aM ss i).length:Nat)=true:=cu (by omega);have hw:=b6 (j:=j) (by omega);obtain ⟨i0,k0,w0,hix,hrd,hx⟩:=hs.at (hG.trans hA) hi;have hln:=hx.len;obtain ⟨i2,k2,va,hix2,hrd2',hsa⟩:=hx.at (an.refl G) hjN;have hrd2:∀ L,ak (K++L) i2 k2 9=some (aJ (bo (aM ss i) j) va):=fun L=>by have:=hrd2' []; rw [af] at this; exact fJ ((hG.trans hA).bX L) this
   have oc:=hsa.cells;have oo:=hsa.one;have hmiss:=fun K' (h:an K K') (hp:p34 (bo (aM ss i) j)=false)=>hv.abW hjN h hp;have happ':=fun hp=>RP hjN hxl hA hv hp hsa;have hpd:p34 (bo (aM ss i) j)=(eqB (bo (aM ss i) j).kind 3 || eqB (bo (aM ss i) j).kind 4):=rfl;generalize bo (aM ss i) j=x at *;simp only [aJ] at hrd2 happ';rw [NQ];rw [<-af K];cases e3:eqB x.kind 3 with
   | true =>obtain ⟨v',K',happ,hA',hv'⟩:=happ' (by rw [hpd,e3]; rfl);simp -implicitDefEqProofs only [AA,f21,aP,hlen,h0,h3,h4,h6,h5,hix,hrd,hln,hlt,hix2,hrd2,↓oc,↓oo,fB,ed,e3,Wv,↓bS,happ,hw,↓zzC,zzE,sevalprocAttr];generalize hX:EvC aa C0 W0 _ _ _=Z;exact ih (j+1) _ _ _ hX (by omega) (by omega) ⟨by simp only [ls,hlen],Aj4 (by simp only [hlen,h0,h3,h4,h6,gB,and_self,sevalprocAttr]) ⟨hA',v',by simp only [hlen,h5,gB,sevalprocAttr],hv'⟩⟩
   | false =>
     cases e4:eqB x.kind 4 with
     | true =>obtain ⟨v',K',happ,hA',hv'⟩:=happ' (by rw [hpd,e3,e4]; rfl);simp -implicitDefEqProofs only [AA,f21,aP,hlen,h0,h3,h4,h6,h5,hix,hrd,hln,hlt,hix2,hrd2,↓oc,↓oo,fB,ed,e3,e4,Wv,↓bS,happ,hw,↓zzC,zzE,sevalprocAttr];generalize hX:EvC aa C0 W0 _ _ _=Z;exact ih (j+1) _ _ _ hX (by omega) (by omega) ⟨by simp only [ls,hlen],Aj4 (by simp only [hlen,h0,h3,h4,h6,gB,and_self,sevalprocAttr]) ⟨hA',v',by simp only [hlen,h5,gB,sevalprocAttr],hv'⟩⟩
     | false =>simp -implicitDefEqProofs only [AA,f21,aP,hlen,h0,h3,h4,h6,h5,hix,hrd,hln,hlt,hix2,hrd2,↓oc,↓oo,fB,ed,e3,e4,hw,↓zzC,zzE,sevalprocAttr];generalize hX:EvC aa C0 W0 _ _ _=Z;exact ih (j+1) _ _ _ hX (by omega) (by omega) ⟨by simp only [ls,hlen],Aj4 (by simp only [hlen,h0,h3,h4,h6,gB,and_self,sevalprocAttr]) ⟨hA.bX _,v,by simp only [hlen,h5,gB,sevalprocAttr],hmiss _ (an.app _ _) (by rw [hpd,e3,e4]; rfl)⟩⟩
def OU (G K:AH) (ss:List (List Itm)) (i:Nat) (v:AV):Prop:=∃ rows:List (List (Itm × AV) × AV),rows.map (fun r=>r.1.map (·.1))=(ss.take i).map (·.filter p34)/\(∀ r∈rows,(∀ p∈r.1,SlS 32 1 G p.2 (p.1.args.map dH))/\Own G.length K 9 34 r.2 (flR r.1).flatten/\(∀ c,cF r.2=some c->cF v≠some c))/\Own G.length K 1 31 v (rows.map (·.2))
theorem mL {b:Nat} {H:AH} {es:Nat} {elem:TypeId} {v:AV} {xs:List AV} (h:Own b H es elem v xs) {c:Nat} (hc:cF v=some c):b<=c/\c < H.length:=by
 cases h with
 | nil=>cases hc
 | «at» i k len cap ex cs xs hb hi hl hcs hx=>cases hc; exact ⟨hb,aI hi⟩
theorem zU {b:Nat} {H H':AH} {es:Nat} {elem:TypeId} {v:AV} {xs:List AV} (h:Own b H es elem v xs) (hf:∀ c,cF v=some c->H'[c]? =H[c]?):Own b H' es elem v xs:=
 h.other fun i k e len cap ex hv=>hf i (by rw [hv]; rfl)
theorem ae9:Nat.ble (aa.bytesOf 31) 1000=true:=by kernel_rfl
theorem Ja {G K K1:AH} {ss:List (List Itm)} {i:Nat} {v w:AV} (hi:i < ss.length) (hsl:ss.length<=1000) (hA:an G K) (hA1:an K K1) (h:OU G K ss i v) (hw:DV G K K1 (aM ss i) (aM ss i).length w) :
   ∃ v' K2,fV aa none 25 (some 25) v (.slice K1.length 0 1 1 1 true) (K1++[.cells [w] 31])=some (v',K2)/\an G K2/\OU G K2 ss (i+1) v':=by
 obtain ⟨rows,h1,h2,h3⟩:=h;obtain ⟨l,w1,w2,w3⟩:=hw;rw [gg] at w1;have hl:=h3.length;have hr1:=congrArg ew h1;rw [ao,ao,dR] at hr1;rw [ao] at hl;have hA2:an K (K1++[.cells [w] 31]):=hA1.bX _;have hwo:=w3.cells;have hrow:Row (K1++[.cells [w] 31]) 1 (.slice K1.length 0 1 1 1 true) [w]:=.at _ _ _ _ _ _ (by rw [gj]; rfl);obtain ⟨v',K2,he,ho,hlen,hsame,hblk⟩:=tZ Oz (h3.aZ hA2) (by rw [List.length_append]; have:=hA.len; have:=hA1.len; omega) hrow (by simp [hwo.2]) (gY ae9 (by rw [cp]; omega));have hK1:=hA1.len;have hlen1:(K1++[bm.cells [w] 31]).length=K1.length+1:=by simp
 refine ⟨v',K2,he,fun c hc=>?_,rows++[(l,w)],?_,?_,?_⟩
 · have hGK:=hA.len;rw [hsame c (by omega) (fun e=>by have:=(mL h3 e).1; omega),hA2 c (by omega),hA c hc]
 · rw [dE,h1,ez,dE,mF hi];simp only [fI,List.map_nil,rH,w1]
 · intro r hr;rcases cA.1 hr with hr | hr
   · obtain ⟨a1,a2,a3⟩:=h2 r hr;refine ⟨a1,zU (a2.aZ hA2) (fun c hc=>?_),fun c hc e=>?_⟩
     · have:=(mL a2 hc).2;exact hsame c (by omega) (a3 c hc)
     · rcases hblk c e with e | e
       · exact a3 c hc e
       · have:=(mL a2 hc).2; omega
   · rw [bJ] at hr;subst hr;refine ⟨w2,?_,fun c hc e=>?_⟩
     · refine zU ((w3.aZ (an.app K1 [bm.cells [w] 31])).up hA.len) (fun c hc=>?_);have:=mL w3 hc;exact hsame c (by omega) (fun e=>by have:=(mL h3 e).2; omega)
     · have h5:=mL w3 hc;rcases hblk c e with e | e
       · have:=(mL h3 e).2; omega
       · omega
 · rw [dE]; exact ho
theorem FH (ss:List (List Itm)):(wtS ss).length=ss.length:=by unfold wtS; rw [ao]
theorem OF {G K:AH} {ss:List (List Itm)} {vs v:AV} (hs:cT G ss vs) (hA:an G K) (h:OU G K ss ss.length v):cT K (wtS ss) v:=by
 obtain ⟨rows,h1,h2,h3⟩:=h;rw [gg] at h1;have hx:∀ l∈ss,l.length < 2 ^ 50/\∀ x∈l,x.args.length < 2 ^ 50/\(∀ a∈x.args,fk a)/\fk x.word:=fun r hr=>by obtain ⟨⟨ls,e,_,hi⟩,_⟩:=hs;rw [<-e] at hr;obtain ⟨p,hp,rfl⟩:=bI.1 hr;obtain ⟨_,n,a,b,c⟩:=hi p hp;exact ⟨n,fun x hx=>⟨a x hx,b x hx,c x hx⟩⟩
 have hrow:∀ r∈rows.map (fun (r:List (Itm × AV) × AV)=>[r.2]),r.length=1:=fun r hr=>by obtain ⟨p,_,rfl⟩:=bI.1 hr;rfl
 have hcell:(rows.map fun (r:List (Itm × AV) × AV)=>[r.2]).flatten=rows.map (·.2):=qb _ _;rw [<-hcell] at h3;refine ⟨⟨rows.map fun r=>(r.1.map (·.1),r.2),?_,?_,?_⟩,by rw [FH]; exact hs.n⟩
 · rw [pD]; exact h1
 · rw [pD]; exact Own.mJ CI (by decide) h3 hrow
 · intro p hp;obtain ⟨r,hr,rfl⟩:=bI.1 hp;obtain ⟨a1,a2,_⟩:=h2 r hr;have hm:r.1.map (·.1)∈ss.map (·.filter p34):=by rw [<-h1]; exact bI.2 ⟨r,hr,rfl⟩
   obtain ⟨l0,hl0,e⟩:=bI.1 hm;obtain ⟨n0,f0⟩:=hx l0 hl0;have hsub:∀ x∈r.1.map (·.1),x∈l0:=fun x hx=>by rw [<-e] at hx; exact (fm.1 hx).1
   exact ⟨⟨r.1,rfl,Own.mJ mV (by decide) a2 (Gm _),fun p hp=>(a1 p hp).same hA⟩,by show (r.1.map (·.1)).length < _;rw [<-e];exact Nat.lt_of_le_of_lt (gW _ _) n0,fun x hx=>(f0 x (hsub x hx)).1,fun x hx=>(f0 x (hsub x hx)).2.1,fun x hx=>(f0 x (hsub x hx)).2.2⟩
theorem O9 {G:AH} {ss:List (List Itm)} {vs:AV} (hs:cT G ss vs) (hsl:ss.length<=1000) (hxl:∀ i,i < ss.length->(aM ss i).length<=1000):∀ (d i:Nat) (tm:List AV) (K:AH) (Z:Option (bk × St)),EvC aa C0 W0 plN Ta (tm,K)=Z->ss.length - i=d->i<=ss.length->(tm.length=61/\tm.getD 0 uA=vs/\tm.getD 4 uA=I ((i:Nat):Int)/\an G K/\∃ v,tm.getD 3 uA=v/\OU G K ss (i) v) ->
   ∃ X K1,Z=some (.exit 0,(X,K1))/\(X.length=61/\X.getD 0 uA=vs/\X.getD 4 uA=I ((ss.length:Nat):Int)/\an G K1/\∃ v,X.getD 3 uA=v/\OU G K1 ss (ss.length) v):=by
 have hls:=hs.len;intro d;induction d with
 | zero =>
   intro i tm K Z hZ hd hi hI;subst hZ;have hil:i=ss.length:=by omega
   subst hil;obtain ⟨hlen,h0,h4,hA,v,h3,hv⟩:=hI;have hlt:ltB ((ss.length:Nat):Int) (ss.length:Nat)=false:=cw (by omega);rw [NP];simp -implicitDefEqProofs only [Hb,f21,aP,hlen,h0,h3,h4,hls,hlt,↓zzC,zzE,sevalprocAttr];exact ⟨_,K,rfl,by simp only [ls,hlen],Aj2 (by simp only [hlen,h0,h4,gB,and_self,sevalprocAttr]) ⟨hA,v,by simp only [hlen,h3,gB,sevalprocAttr],hv⟩⟩
 | succ d ih =>
   intro i tm K Z hZ hd hi hI;subst hZ;have hil:i < ss.length:=by omega
   obtain ⟨hlen,h0,h4,hA,v,h3,hv⟩:=hI;have hlt:ltB (i:Int) (ss.length:Nat)=true:=cu (by omega);have hw:=b6 (j:=i) (by omega);rw [NP];simp -implicitDefEqProofs only [Hb,f21,aP,hlen,h0,h3,h4,hls,hlt,↓zzC,zzE,sevalprocAttr];generalize hX:EvC aa C0 W0 plN (Code.loop _) _=Z;obtain ⟨X,K1,he,xl,x0,x3,x4,x6,xA,w,x5,xw⟩:=T8 (lv:=v) hs hA hil (hxl i hil) _ 0 _ _ _ hX rfl (aV _) ⟨by simp only [ls,hlen],Aj3 (by simp only [hlen,h0,h3,h4,gB,and_self,sevalprocAttr]) ⟨by simp only [hlen,gB,sevalprocAttr]; try rfl,an.refl K,.nilSlice,by simp only [hlen,gB,sevalprocAttr],[],rfl,fun p h=>(by cases h),.nil⟩⟩;subst he;obtain ⟨v',K2,happ,hA',hv'⟩:=Ja hil hsl hA xA hv xw;have hwsh:w=.nilSlice∨∃ i k es l c e,w=.slice i k es l c e:=by obtain ⟨_,_,_,ho⟩:=xw; exact ho.sh
   have hwc:w.cells=[w]/\w.one=true:=by obtain ⟨_,_,_,ho⟩:=xw; exact ho.cells
   have bs:=Ot hwc hwsh K1;simp -implicitDefEqProofs only [aP,xl,x0,x3,x4,x5,bs,↓bS,happ,hw,↓zzC,zzE,sevalprocAttr];generalize hY:EvC aa C0 W0 _ _ _=Z;exact ih (i+1) _ _ _ hY (by omega) (by omega) ⟨by simp only [ls,xl],Aj2 (by simp only [xl,x0,x4,gB,and_self,sevalprocAttr]) ⟨hA',v',by simp only [xl,x3,gB,sevalprocAttr],hv'⟩⟩
theorem F0 {x:Itm}:p34 x=true↔x.kind=3∨x.kind=4:=by unfold p34; rw [Bool.or_eq_true,cP,cP]
theorem XY (ss:List (List Itm)):qS (wtS ss)=Qu.nM (fun y=>decide (y.kind=3∨y.kind=4)) (qS ss):=by
 unfold qS wtS Qu.nM;rw [pD,pD];refine List.map_congr_left fun l _=>?_;simp only [Function.comp];rw [List.filter_map];congr 1;refine List.filter_congr fun x _=>?_;have:=@F0 x;cases h:p34 x with
 | true=>exact (decide_eq_true (this.1 h)).symm
 | false=>exact (decide_eq_false fun c=>by rw [this.2 c] at h; cases h).symm
theorem WI (ss:List (List Itm)):Qu.ja (qS (wtS ss))↔Qu.ja (qS ss):=by rw [XY];exact Qu.zg (fun x hx=>decide_eq_true hx) _
theorem T6 (ss:List (List Itm)):((wtS ss).map ew).sum<=(ss.map ew).sum:=by
 unfold wtS;induction ss with
 | nil=>exact aw _
 | cons l ss ih =>simp only [fI,List.sum_cons];have:=gW p34 l;omega
theorem abc:iV aa 27 []=some (.agg [I 0,.bool false,I 0,I 0,I 0,I 0,I 0]):=by kernel_rfl
theorem Po {H:AH} {ss:List (List Itm)} {v:AV} (h:cT H ss v):v=.nilSlice∨∃ i k es l c e,v=.slice i k es l c e:=by
 obtain ⟨⟨l,_,hs,_⟩,_⟩:=h;rcases hs.old with ⟨e,_⟩ | ⟨i,k,c,e,h,_⟩
 · exact .inl e
 · exact .inr ⟨_,_,_,_,_,_,h⟩
theorem JW (n i:Nat):(au n 0).getD i 0=0:=by rw [gde,List.getElem?_replicate];split <;> rfl
theorem aeU {H:AH} {ss:List (List Itm)} {vs:AV} (hs:cT H ss vs) (hfew:(ss.map ew).sum<=24) (h4:ss.length<=4) (hev:sG ss):∃ b,Ev aa C0 W0 21 [vs] H=some (.bool b,H)/\(b=true↔¬ Qu.ja (qS ss)):=by
 obtain ⟨tm,ht,g0,g1⟩:=tm1 vs 61 (by decide);rw [ads,ht];have hxl:∀ i,i < ss.length->(aM ss i).length<=1000:=fun i hi=>by have:=mT (ss.map ew) (aM ss i).length (bI.2 ⟨_,gG hi,rfl⟩);omega
 simp -implicitDefEqProofs only [c21,f21,aP,g0,g1,↓zzC,zzE,sevalprocAttr];generalize hX:EvC aa C0 W0 plN (Code.loop _) _=Z;obtain ⟨X,K1,he,xl,x0,x4,xA,v,x3,xv⟩:=O9 hs.ro (by omega) hxl _ 0 _ _ _ hX rfl (aV _) ⟨by simp only [ls,g0],by simp only [g0,g1,gB,sevalprocAttr],by simp only [g0,gB,sevalprocAttr]; try rfl,an.refl (ro H),.nilSlice,by simp only [g0,gB,sevalprocAttr],[],rfl,fun r h=>(by cases h),.nil⟩;subst he;have hw:=OF hs.ro xA xv;have hwl:=FH ss;have hws:=T6 ss;obtain ⟨K2,h52,hA2,hN2,hq2⟩:=aeA (Po hw) hw.len (by omega);have hwev:∀ l∈wtS ss,∀ x∈l,(x.kind=3∨x.kind=4)/\0<=x.ev/\x.ev < 16:=fun l hl x hx=>by unfold wtS at hl;obtain ⟨l0,h0,rfl⟩:=bI.1 hl;obtain ⟨h1,h2⟩:=fm.1 hx;have h3:=F0.1 h2;exact ⟨h3,hev l0 h0 x h1 h3⟩
 have hQ:RqV K2 (K1.length+10) (K1.length+8) v (wtS ss) (au (wtS ss).length 0) rc0:=
   { ob:=hq2,s:=hw.aZ hA2,a:=hN2,la:=List.length_replicate,le:=fun i hi=>by rw [JW]; exact aV _,lr:=rfl,ev:=hwev,few:=by omega,fs:=by omega }
 obtain ⟨K3,ad,m,rc,h53,hA3,hQ3,ht,hend⟩:=aez (vm:=I 0) hw (by omega) (by omega) hA2 hQ (Trod.init (wtS ss) []);have h54:=VZ hQ3.view;have hfin:=BW (fun l hl x hx _=>(hwev l hl x hx).2) ht hend;rw [WI] at hfin;have b27:=abc;refine ⟨eqB (vr (wtS ss) ad rc) 11,?_,?_⟩
 · simp -implicitDefEqProofs only [aP,xl,x0,x3,x4,b27,↓adP,h52,↓adO,h53,↓Rf,h54,↓zzC,zzE,sevalprocAttr]
 · rcases hfin with ⟨e,a⟩ | ⟨e,a⟩
   · rw [e];exact ⟨fun h=>absurd h (by decide),fun h=>absurd a h⟩
   · rw [e];exact ⟨fun _=>a,fun _=>rfl⟩
theorem ev5 {H:AH} {cs:List Cod} {m:List (List Int)} {ss:List (List Itm)} {vc vm vs:AV} (hc:dy H cs vc) (hm:eo H m vm) (hs:cT H ss vs) (f:Con):∃ K,Ev aa C0 W0 5 [.agg [vc,vm,vs,I f.w,.bool f.free,I f.cores,I f.slots,I f.room,I f.pol,I f.lat]] H=some (.bool true,K):=by
 obtain ⟨tm,ht,g0,g1⟩:=tm1 (.agg [vc,vm,vs,I f.w,.bool f.free,I f.cores,I f.slots,I f.room,I f.pol,I f.lat]) 67 (by decide);rw [fe5,ht];have e00:eqB 0 0=true:=rfl;have e11:eqB 11 11=true:=rfl;have e110:eqB 11 0=false:=rfl;have hxl:∀ l∈ss,l.length < 2 ^ 50:=fun xs hx=>by obtain ⟨⟨l2,e2,_,h2⟩,_⟩:=hs;rw [<-e2] at hx;obtain ⟨p,hp,rfl⟩:=bI.1 hx;exact (h2 p hp).n
 have hA0:=an.app H [.cells [vc,vm,vs,I f.w,.bool f.free,I f.cores,I f.slots,I f.room,I f.pol,I f.lat] 29];have hpl:(H++[bm.cells [vc,vm,vs,I f.w,.bool f.free,I f.cores,I f.slots,I f.room,I f.pol,I f.lat] 29])[H.length]? =some (.cells [vc,vm,vs,I f.w,.bool f.free,I f.cores,I f.slots,I f.room,I f.pol,I f.lat] 29):=by rw [al (aw _),Nat.sub_self]; rfl
 have hput:∀ o,put none H o=some (H.length,H++[o]):=fun _=>rfl;have hc0:=hc.aZ hA0;have hm0:=hm.aZ hA0;have hs0:=hs.aZ hA0;generalize hKe:H++[bm.cells [vc,vm,vs,I f.w,.bool f.free,I f.cores,I f.slots,I f.room,I f.pol,I f.lat] 29]=G1 at *;have ra:ak G1 H.length 0 10=some [vc,vm,vs,I f.w,.bool f.free,I f.cores,I f.slots,I f.room,I f.pol,I f.lat]:=by unfold ak; rw [hpl]; rfl
 have h8:=ev8 hc0 hm0 hs0 f;have h9:=ev9 G1;cases hr:PB cs m ss f with
 | false =>rw [hr] at h8;refine ⟨G1,?_⟩;simp -implicitDefEqProofs only [c5,f5,aP,g0,g1,hput,hKe,ra,It,↓fc8,h8,↓fc9,h9,↓zzC,zzE,sevalprocAttr]
 | true =>
   rw [hr] at h8;have hk:g8 cs m ss f=0:=by unfold PB at hr;rw [Bool.and_eq_true,cP] at hr;exact hr.2
   have hg:=tI hxl hk;have hkp:=IZ hk;have hgp:=tI hxl hkp;have hfew:ss.flatten.length<=1000:=by have:=hg.few;rw [List.length_flatten];omega
   have hrt:=Iz hg;have hev:∀ i,i < ss.flatten.length->(itP ss i).kind=3->∃ e:Nat,(itP ss i).ev=e/\e < 16:=fun i hi h3=>by obtain ⟨_,p2,p3,_⟩:=oQ hi;have:=(xR (x:=itP ss i) (hg.it _ (gG p2) _ (fA p3)) hg.nm).2.2 (.inl h3);exact ⟨(itP ss i).ev.toNat,by omega,by omega⟩
   have h18:=aao hc0 hm0 hs0 hkp hgp;obtain ⟨v1,e1,K2,h19,S2,_,hW1⟩:=aeW hc0 hm0 hs0 hkp hgp;have rd1:∀ {K:AH},Sub G1 K->∀ i n xs,(([vc,vm,vs,I f.w,.bool f.free,I f.cores,I f.slots,I f.room,I f.pol,I f.lat]:List AV).drop i).take n=xs->i+n<=10->ak K H.length i n=some xs:=fun h i n xs e hin=>h.rd (by unfold ak; rw [hpl]; simp only [List.length_cons,List.length_nil]; rw [if_pos (by omega),e]);have S1:=(an.refl G1).sub;have a0:=rd1 S1 0 1 [vc] rfl (by decide);have a1:=rd1 S1 1 1 [vm] rfl (by decide);have a2:=rd1 S1 2 1 [vs] rfl (by decide);have c0:=rd1 S2 0 1 [vc] rfl (by decide);have c2:=rd1 S2 2 1 [vs] rfl (by decide);have hs2:=hs0.sub S2;have h20:=aeV (hc0.sub S2) (fun c h=>(hg.cod c h).1) hg.nm hrt hs2 hfew hev;obtain ⟨bw,h21,hbw⟩:=aeU hs2 hg.few hg.n4 (Gr hg);have h93:=ev9 K2;rcases hW1 with ⟨rfl,rfl,hna⟩ | ⟨rfl,hall,w,Ds,bb,ob,rfl,hnum,_,hwl,hko⟩
   · have:bw=true:=hbw.2 hna;subst this;refine ⟨K2,?_⟩;simp -implicitDefEqProofs only [c5,f5,aP,g0,g1,hput,hKe,ra,It,↓fc8,h8,a0,a1,a2,c0,c2,nT,yP,yO,↓VW,h18,↓ZX,h19,↓ZV,h20,↓ZU,h21,↓fc9,h93,e00,e11,e110,Ga,bn4,bne_self_eq_false,↓zzC,zzE,sevalprocAttr]
   · have hbf:bw=false:=by
       cases hb:bw with
       | false=>rfl
       | true=>exact absurd hall (hbw.1 hb)
     subst hbf
     have hN:(qS ss).flatten.length=ss.flatten.length:=by rw [gM,ao]
     obtain ⟨we,wlt⟩:=Qu.Jt hall (by rw [hN]; exact hko)
     rw [hN] at we wlt
     have wle:=(hko.fin (fun y _=>Qu.Hs hall y)).2.2
     obtain ⟨o2,K4,h22,A4,hn2⟩:=aeT (wf:=fun k=>w.getD k 0) hs2 hfew hev (fun i k hi hk hb=>wlt i k hi hk hb) (fun k hk=>by have:=wle k hk; omega)
     rw [<-we] at hn2
     have h13:=aeZ (hU.sls (show hU K4 ob w from A4.get hnum)) (hU.sls hn2) (by omega)
     rw [hwl] at h13
     have h94:=ev9 K4
     refine ⟨K4,?_⟩
     rw [hwl] at h19
     simp -implicitDefEqProofs only [c5,f5,aP,g0,g1,hput,hKe,ra,It,↓fc8,h8,a0,a1,a2,c0,c2,nT,yP,yO,↓VW,h18,↓ZX,h19,↓ZV,h20,↓ZU,h21,↓ad1,h22,↓ad4,h13,↓fc9,h94,e00,bn4,bne_self_eq_false,↓zzC,zzE,sevalprocAttr]
end Go.Dv
namespace Go.Dv
theorem Env.le.trans' {φ ψ χ:Env} (h:φ.le ψ) (k:ψ.le χ):φ.le χ:=Env.le_trans h k
structure RdW (w:World) (φ:Env) (G:AH):Prop where
 wr:WR w (fun b=>b < w.heap.size) φ G w
 arg:∀ (i:Nat) (o:bm),G[i]? =some o->∃ cs,o=bm.arg cs
theorem RdW.nil (w:World):RdW w (fun _=>none) []:=⟨WR.start w,fun i o h=>by simp at h⟩
theorem RdW.push {w:World} {φ:Env} {G:AH} (h:RdW w φ G) {b off z:Nat} {cs:List AV} (hb:b < w.heap.size)
   (hc:∀ j v,cs[j]? =some v->∃ u,w.cell? ⟨b,off+j,none⟩=some u/\VR φ v u):φ.le (φ.set G.length (b,off,z))/\RdW w (φ.set G.length (b,off,z)) (G++[.arg cs]):=by
 have hle:=Env.su (b,off,z) (h.wr.dom G.length (aw _));have hA:∀ (i:Nat) (o:bm),(G++[bm.arg cs])[i]? =some o->(∃ cs,o=bm.arg cs)/\((i < G.length/\G[i]? =some o)∨i=G.length/\o=.arg cs):=by
   intro i o hi;rcases bc i G.length with hl | hl
   · rw [ar hl] at hi;exact ⟨h.arg i o hi,.inl ⟨hl,hi⟩⟩
   · rw [al hl] at hi;cases hn:i - G.length with
     | zero =>rw [hn] at hi;simp at hi;exact ⟨⟨cs,hi.symm⟩,.inr ⟨by omega,hi.symm⟩⟩
     | succ n=>rw [hn] at hi; simp at hi
 have hno:∀ i,¬ kh (G++[bm.arg cs]) i:=by rintro i ⟨o,hi,hw⟩;obtain ⟨⟨c,rfl⟩,_⟩:=hA i o hi;cases hw
 refine ⟨hle,⟨⟨fun i hi=>?_,fun i hi=>?_,fun i x hx=>?_,fun i j x y hi=>absurd hi (hno i),fun i x hi=>absurd hi (hno i),fun i x c hi hx=>?_,fun i o hi=>?_,fun _ h=>h,aw _,rfl,rfl,rfl,fun _ _=>rfl⟩,fun i o hi=>(hA i o hi).1⟩⟩
 · simp at hi;rw [Env.gR _ _ (by omega)];exact h.wr.dom i (by omega)
 · obtain ⟨⟨c,hc⟩,_⟩:=hA i _ hi;cases hc
 · by_cases e:i=G.length
   · subst e; rw [Env.d3] at hx; cases hx; exact hb
   · rw [Env.gR _ _ e] at hx; exact h.wr.lt i x hx
 · by_cases e:i=G.length
   · subst e; rw [Env.d3] at hx; cases hx; exact hb
   · rw [Env.gR _ _ e] at hx; exact h.wr.lt i x hx
 · rcases (hA i o hi).2 with ⟨_,hg⟩ | ⟨rfl,rfl⟩
   · exact (h.wr.obj i o hg).lQ hle fun _ _=>rfl
   · exact ⟨b,off,z,Env.d3 _ _ _,fun j v hj=>(hc j v hj).imp fun u hu=>⟨hu.1,hu.2.mono hle⟩⟩
def ie {H:Type} (enc:TypeId × Value->H) (P:Program) (t:TypeId) (Q:AH->List AV->Prop):Prop:=
 ∀ (w:World) (base:Nat) (held:Bool) (fuel:Nat) (cs:List Value) (x:DataW H × List MemPlace),DataW.trod enc P w base (fun _=>true) held fuel t cs=some x->(∀ z∈x.1.weights P t,z<=reachBytes)->0 < w.heap.size ->
   ∀ φ G,RdW w φ G->∃ φ' L avs,RdW w φ' (G++L)/\φ.le φ'/\VRs φ' avs cs/\Q (G++L) avs
def gP (Q:AH->List AV->Prop):Prop:=∀ G L avs,Q G avs->Q (G++L) avs
section
variable {H:Type} {enc:TypeId × Value->H} {P:Program} {t:TypeId}
def iT (k:IntKind):AH->List AV->Prop:=fun _ avs=>∃ n,avs=[.int k n]/\(Lit.int k n).wf=true
def AE:AH->List AV->Prop:=fun _ avs=>∃ b,avs=[.bool b]
def FA:AH->List AV->Prop:=fun _ avs=>∃ s:ByteArray,avs=[.str s]/\s.size<=reachBytes
theorem Cu (k:IntKind):gP (iT k):=fun _ _ _ h=>h
theorem Iq:gP AE:=fun _ _ _ h=>h
theorem LC:gP FA:=fun _ _ _ h=>h
theorem zW {k:IntKind} (ht:P.underlying t=some (.int k)):ie enc P t (iT k):=by intro w base held fuel cs x h _ _ φ G hG;obtain ⟨n,rfl,_,hw⟩:=DataW.trod_int ht h;exact ⟨φ,[],[.int k n],by rw [af]; exact hG,Env.le_refl φ,VRs.one rfl,n,rfl,hw⟩
theorem ES (ht:P.underlying t=some .bool):ie enc P t AE:=by intro w base held fuel cs x h _ _ φ G hG;obtain ⟨n,rfl,_⟩:=DataW.trod_bool ht h;exact ⟨φ,[],[.bool n],by rw [af]; exact hG,Env.le_refl φ,VRs.one rfl,n,rfl⟩
theorem Ij (ht:P.underlying t=some .string):ie enc P t FA:=by intro w base held fuel cs x h hz _ φ G hG;obtain ⟨s,rfl,rfl,_⟩:=DataW.trod_string ht h;exact ⟨φ,[],[.str s],by rw [af]; exact hG,Env.le_refl φ,VRs.one rfl,s,rfl,by have:=hz s.data.toList.length (by simp [DataW.weights]);rw [Array.length_toList] at this;exact this⟩
def SlA (G:AH) (es:Nat) (v:AV) (rows:List (List AV)):Prop:=(v=.nilSlice/\rows=[])∨∃ i c,v=.slice i 0 es rows.length c true/\G[i]? =some (.arg rows.flatten)
def QSl (P:Program) (e:TypeId) (Q:AH->List AV->Prop):AH->List AV->Prop:=fun G avs=>∃ v rows,avs=[v]/\SlA G (P.cellsOf e) v rows/\(∀ r∈rows,r.length=P.cellsOf e/\Q G r)/\rows.length * P.bytesOf e<=reachBytes
theorem SlA.mono {G:AH} {es:Nat} {v:AV} {rows:List (List AV)} (h:SlA G es v rows) (L:AH):SlA (G++L) es v rows:=h.imp id fun ⟨i,c,e,hi⟩=>⟨i,c,e,by
 rw [ar]; exact hi
 rcases bc i G.length with hl | hl
 · exact hl
 · rw [List.getElem?_eq_none hl] at hi; cases hi⟩
theorem QX {e:TypeId} {Q:AH->List AV->Prop} (hQ:gP Q):gP (QSl P e Q):=fun G L avs ⟨v,rows,h1,h2,h3,h4⟩=>⟨v,rows,h1,h2.mono L,fun r hr=>⟨(h3 r hr).1,hQ G L r (h3 r hr).2⟩,h4⟩
theorem CV {es:Nat} (hes:0 < es):∀ (rows:List (List AV)),(∀ r∈rows,r.length=es)->∀ (n:Nat) (v:AV),rows.flatten[n]? =some v->∃ r,rows[n / es]? =some r/\r[n % es]? =some v
 | [],_,n,v,h=>by simp at h
 | r::rows,hr,n,v,h=>by
   have h0:=hr r ki
   rw [List.flatten_cons] at h
   rcases bc n es with hl | hl
   · rw [ar (by omega)] at h
     exact ⟨r,by rw [Nat.div_eq_of_lt hl]; rfl,by rw [Nat.mod_eq_of_lt hl]; exact h⟩
   · rw [al (by omega),h0] at h
     obtain ⟨q,h1,h2⟩:=CV hes rows (fun q hq=>hr q (jy _ hq)) (n - es) v h
     obtain ⟨m,rfl⟩:=Nat.exists_eq_add_of_le hl
     rw [Nat.add_sub_cancel_left] at h1 h2
     rw [Nat.add_comm es m,Nat.add_div_right m hes,Nat.add_mod_right]
     exact ⟨q,by simpa using h1,h2⟩
theorem As {w:World} {base:Nat} {a:Addr} {n:Nat} {cs:List Value} (h:w.cells? base a n=some cs):cs.length=n/\∀ i,i < n->w.cell? (a.add i)=cs[i]?:=by
 unfold World.cells? at h;split at h
 · exact ⟨by simpa using mapM_some_length h,fun i hi=>mapM_some_get h i i (by simp [hi])⟩
 · cases h
theorem At {w:World} {a:Addr} {v:Value} (h:w.cell? a=some v):a.spot=none/\a.block < w.heap.size:=by
 unfold World.cell? at h;split at h
 · rename_i c e f hb;split at h
   · cases h
   · rename_i hs;exact ⟨by simpa using hs,(zo.1 hb).1⟩
 · cases h
theorem add_add (a:Addr) (n m:Nat):(a.add n).add m=a.add (n+m):=by
 unfold Addr.add;by_cases hn:n=0
 · subst hn; simp
 · by_cases hm:m=0
   · subst hm; simp
   · rw [if_neg hn,if_neg hm,if_neg (by omega)];simp [Nat.add_assoc]
theorem pG {e:TypeId}:∀ (l:List (DataW H)) (i:Nat) (d:DataW H),l[i]? =some d->∀ z∈d.weights P e,z∈DataW.weightsAll P e l
 | [],i,d,h=>by simp at h
 | x::l,0,d,h=>fun z hz=>by simp at h; subst h; simp only [DataW.weightsAll,cA]; exact .inl hz
 | x::l,i+1,d,h=>fun z hz=>by simp only [DataW.weightsAll,cA]; exact .inr (pG l i d (by simpa using h) z hz)
theorem Cr {e:TypeId} {Q:AH->List AV->Prop} (ht:P.underlying t=some (.slice e)) (he0:0 < P.cellsOf e) (hm:gP Q) (hQ:ie enc P e Q):ie enc P t (QSl P e Q):=by
 intro w base held fuel cs x h hz hw φ G hG;rcases DataW.trod_slice ht h with ⟨rfl,_⟩ | ⟨a,len,cap,elems,rest,n,_,rfl,rfl,_,hl,_,hel,he,hr,_⟩
 · exact ⟨φ,[],[.nilSlice],by rw [af]; exact hG,Env.le_refl φ,VRs.one rfl,.nilSlice,[],rfl,.inl ⟨rfl,rfl⟩,fun r hr=>by simp at hr,by simp⟩
 obtain ⟨hrl,hr⟩:=hr rfl;generalize hes:P.cellsOf e=es at *;have hwt:DataW.weights P t (.slice (elems.map (·.1)) (rest.map (·.1)))=((elems.map (·.1)).length+(rest.map (·.1)).length) * P.bytesOf e::(DataW.weightsAll P e (elems.map (·.1))++DataW.weightsAll P e (rest.map (·.1))):=by simp only [DataW.weights,ht]
 rw [hwt] at hz;have hsz:len * P.bytesOf e<=reachBytes:=by have:=hz _ ki;simp only [ao,hel] at this;exact Nat.le_trans (Nat.mul_le_mul_right _ (by omega)) this
 have hone:∀ i,i < cap->∃ c,w.cells? base (a.add (i * es)) es=some c:=by
   intro i hi;have:∃ y,(w.cells? base (a.add (i * es)) es).bind (DataW.trod enc P w base (fun _=>true) held n e)=some y:=by
     rcases bc i len with hil | hil
     · rw [he i hil]; exact ⟨_,aj (by omega)⟩
     · have:=hr (i - len) (by omega);rw [show len+(i - len)=i by omega] at this;rw [this]; exact ⟨_,aj (by omega)⟩
   obtain ⟨y,hy⟩:=this;obtain ⟨c,hc,_⟩:=ae.1 hy;exact ⟨c,hc⟩
 have rows:∀ m,m<=len->∃ (φ':Env) (L:AH) (rows:List (List AV)),RdW w φ' (G++L)/\φ.le φ'/\rows.length=m/\(∀ r∈rows,r.length=es/\Q (G++L) r)/\∀ (j:Nat) (r:List AV),rows[j]? =some r->∀ (i:Nat) (v:AV),r[i]? =some v->∃ u,w.cell? (a.add (j * es+i))=some u/\VR φ' v u:=by
   intro m;induction m with
   | zero=>exact fun _=>⟨φ,[],[],by rw [af]; exact hG,Env.le_refl φ,rfl,fun r hr=>by simp at hr,fun j r hr=>by simp at hr⟩
   | succ m ih =>
     intro hm1;obtain ⟨φ1,L1,rows,h1,h2,h3,h4,h5⟩:=ih (by omega);have hy:=he m (by omega);rw [aj (by omega:m < elems.length)] at hy;obtain ⟨c,hc,hy⟩:=ae.1 hy;obtain ⟨φ2,L2,avs,k1,k2,k3,k4⟩:=hQ w base held n c _ hy (fun z hz'=>hz z (jy _ (cA.2 (.inl (pG _ m _ (by rw [aO,aj (by omega:m < elems.length)]; rfl) z hz'))))) hw φ1 (G++L1) h1;obtain ⟨hcl,hcg⟩:=As hc;have hal:avs.length=es:=by rw [<-hcl]; exact k3.length
     refine ⟨φ2,L1++L2,rows++[avs],by rw [<-aD]; exact k1,h2.trans' k2,by simp [h3],fun r hr=>?_,fun j r hj i v hv=>?_⟩
     · rw [<-aD];rcases cA.1 hr with hr | hr
       · exact ⟨(h4 r hr).1,hm _ _ _ (h4 r hr).2⟩
       · simp at hr; subst hr; exact ⟨hal,k4⟩
     · rcases bc j rows.length with hl' | hl'
       · rw [ar hl'] at hj;obtain ⟨u,hu,r'⟩:=h5 j r hj i v hv;exact ⟨u,hu,r'.mono k2⟩
       · rw [al hl'] at hj;cases hjn:j - rows.length with
         | succ q=>rw [hjn] at hj; simp at hj
         | zero =>
           rw [hjn] at hj;simp at hj;subst hj;obtain rfl:j=m:=by omega
           have hi:i < es:=by have:=aI hv; omega
           obtain ⟨u,hu,r'⟩:=k3.get i v hv;exact ⟨u,by rw [<-add_add,hcg i hi]; exact hu,r'⟩
 obtain ⟨φ1,L1,rs,h1,h2,h3,h4,h5⟩:=rows len (aw _);subst h3;rcases Nat.eq_zero_or_pos cap with h0 | hpos
 · subst h0;obtain rfl:rs=[]:=List.length_eq_zero_iff.1 (by omega);obtain ⟨k1,k2⟩:=h1.push (b:=0) (off:=0) (z:=0) (cs:=[]) hw (fun j v hj=>by simp at hj);refine ⟨_,L1++[.arg []],[.slice (G++L1).length 0 es 0 0 true],by rw [<-aD]; exact k2,h2.trans' k1,VRs.one ⟨a,0,rfl,aw _,⟨aw _,fun _=>rfl⟩,.inl rfl⟩,_,[],rfl,.inr ⟨_,0,by rw [hes]; rfl,?_⟩,fun r hr=>by simp at hr,by simp⟩;rw [<-aD]; simp
 · obtain ⟨c0,hc0⟩:=hone 0 hpos;obtain ⟨hl0,hg0⟩:=As hc0;have hsp:=At (v:=c0[0]'(by omega)) (by have:=hg0 0 he0;rw [Nat.zero_mul,add_add] at this;rw [this]; exact aj (by omega));have ha0:a.add (0+0)=a:=by simp [Addr.add]
   rw [ha0] at hsp;have hxa:∀ n,a.add n=⟨a.block,a.off+n,none⟩:=fun n=>by
     unfold Addr.add;split
     · rename_i h; subst h;obtain ⟨b,o,s⟩:=a;simp at hsp ⊢; exact hsp.1
     · rfl
   obtain ⟨k1,k2⟩:=h1.push (b:=a.block) (off:=a.off) (z:=a.off+cap * es) (cs:=rs.flatten) hsp.2 (fun j v hj=>by obtain ⟨r,hr1,hr2⟩:=CV he0 rs (fun r hr=>(h4 r hr).1) j v hj;obtain ⟨u,hu,r'⟩:=h5 _ r hr1 _ v hr2;rw [hxa,show j / es * es+j % es=j by rw [Nat.mul_comm]; exact Nat.div_add_mod j es] at hu;exact ⟨u,hu,r'⟩);refine ⟨_,L1++[.arg rs.flatten],[.slice (G++L1).length 0 es rs.length cap true],by rw [<-aD]; exact k2,h2.trans' k1,VRs.one ⟨a,cap,rfl,hl,⟨aw _,fun _=>rfl⟩,.inr ⟨a.block,a.off,a.off+cap * es,Env.d3 _ _ _,?_,by omega⟩⟩,_,rs,rfl,.inr ⟨_,cap,by rw [hes],?_⟩,fun r hr=>?_,hsz⟩
   · have:=hxa 0;rw [show a.add 0=a by simp [Addr.add]] at this;exact this
   · rw [<-aD]; simp
   · rw [<-aD,hes];exact ⟨(h4 r hr).1,hm _ _ _ (h4 r hr).2⟩
def QL:List (TypeId × (AH->List AV->Prop))->AH->List AV->Prop
 | [],_,avs=>avs=[]
 | p::l,G,avs=>∃ a b,avs=a++b/\p.2 G a/\QL l G b
theorem F8:∀ {l:List (TypeId × (AH->List AV->Prop))},(∀ p∈l,gP p.2)->gP (QL l)
 | [],_=>fun _ _ _ h=>h
 | p::l,h=>fun G L avs ⟨a,b,e,h1,h2⟩=>⟨a,b,e,h p ki G L a h1,F8 (fun q hq=>h q (jy _ hq)) G L b h2⟩
def pZ (P:Program):Nat->List TypeId->List (TypeId × Nat)
 | _,[]=>[]
 | o,t::ts=>(t,o)::pZ P (o+P.cellsOf t) ts
def qB (P:Program):List TypeId->Nat
 | []=>0
 | t::ts=>P.cellsOf t+qB P ts
def fieldsOf:Option TypeDesc->List (TypeId × Nat)
 | some (.struct fs)=>fs.toList.map fun f=>(f.type,f.offset)
 | _=>[]
theorem th {w:World} {base n:Nat} {held:Bool} {cs:List Value} (hw:0 < w.heap.size):∀ (l:List (TypeId × (AH->List AV->Prop))) (o:Nat),(∀ p∈l,ie enc P p.1 p.2/\gP p.2)->cs.length=o+qB P (l.map (·.1)) ->
   (∀ (i:Nat) (u:TypeId) (off:Nat),(pZ P o (l.map (·.1)))[i]? =some (u,off)->∃ y:DataW H × List MemPlace,DataW.trod enc P w base (fun _=>true) held n u ((cs.drop off).take (P.cellsOf u))=some y/\∀ z∈y.1.weights P u,z<=reachBytes) ->
   ∀ φ G,RdW w φ G->∃ φ' L avs,RdW w φ' (G++L)/\φ.le φ'/\VRs φ' avs (cs.drop o)/\QL l (G++L) avs
 | [],o,_,hl,_,φ,G,hG=>⟨φ,[],[],by rw [af]; exact hG,Env.le_refl φ,by
   simp [qB] at hl
   rw [List.drop_eq_nil_of_le (by omega)]; exact .nil _,rfl⟩
 | p::l,o,hp,hl,hf,φ,G,hG=>by
   simp only [fI,qB] at hl
   obtain ⟨y,hy,hz⟩:=hf 0 p.1 o rfl
   obtain ⟨φ1,L1,a1,h1,h2,h3,h4⟩:=(hp p ki).1 w base held n _ y hy hz hw φ G hG
   obtain ⟨φ2,L2,a2,k1,k2,k3,k4⟩:=th hw l (o+P.cellsOf p.1) (fun q hq=>hp q (jy _ hq)) (by omega) (fun i u off hi=>hf (i+1) u off (by simpa [pZ] using hi)) φ1 (G++L1) h1
   refine ⟨φ2,L1++L2,a1++a2,by rw [<-aD]; exact k1,h2.trans' k2,?_,a1,a2,rfl,?_,?_⟩
   · have e:cs.drop o=(cs.drop o).take (P.cellsOf p.1)++cs.drop (o+P.cellsOf p.1):=by rw [<-List.drop_drop,List.take_append_drop]
     rw [e]
     exact VRs.append (VRs.mono k2 _ _ h3) k3
   · rw [<-aD]; exact (hp p ki).2 _ _ _ h4
   · rw [<-aD]; exact k4
theorem Bd {l:List (TypeId × (AH->List AV->Prop))} (hf:fieldsOf (P.underlying t)=pZ P 0 (l.map (·.1))) (hne:l≠[]) (hc:P.cellsOf t=qB P (l.map (·.1))) (hp:∀ p∈l,ie enc P p.1 p.2/\gP p.2):ie enc P t (QL l):=by
 intro w base held fuel cs x h hz hw φ G hG;unfold fieldsOf at hf;split at hf
 · rename_i fs ht;obtain ⟨xs,n,_,rfl,hl,hx,he⟩:=DataW.trod_struct ht h;have hwt:DataW.weights P t (.agg (xs.map (·.1)))=DataW.weightsEach P (fs.toList.map (·.type)) (xs.map (·.1)):=by simp only [DataW.weights,ht]
   rw [hwt] at hz;have:=th (enc:=enc) (base:=base) (n:=n) (held:=held) (cs:=cs) hw l 0 hp (by omega) (fun i u o hi=>by
     rw [<-hf,aO] at hi;simp only [ah,Prod.mk.injEq] at hi;obtain ⟨f,hfi,rfl,rfl⟩:=hi;have hfi':fs[i]? =some f:=by simpa using hfi
     rw [he i f hfi'];have hi2:i < xs.length:=by rw [hx]; exact (zo.1 hfi').1
     refine ⟨_,aj hi2,fun z hz'=>hz z ?_⟩;exact DataW.weights_mem_each (j:=i) (by rw [aO,hfi]; rfl) (by rw [aO,aj hi2]; rfl) z hz') φ G hG
   rw [List.drop_zero] at this;exact this
 · exfalso;cases l with
   | nil=>exact hne rfl
   | cons p l=>cases hf
end
end Go.Dv
