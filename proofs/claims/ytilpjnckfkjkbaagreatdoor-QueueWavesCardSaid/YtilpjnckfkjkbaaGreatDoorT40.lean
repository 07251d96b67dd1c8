/- Part 40 of the walks (own work). -/
import Derived.Test.YtilpjnckfkjkbaaGreatDoorT39
open Bool renaming and_eq_true→aC
open List renaming append_nil→af,flatten_append→ez,length_append→ai,length_map→ar,length_set→aq,map_append→eg,mem_flatten→vY,mem_map→bL
open Nat renaming zero_le→cX
open Go.Proofs.Tryz renaming prog→aa
set_option maxRecDepth 100000
set_option maxHeartbeats 4000000
set_option linter.unusedSimpArgs false
set_option linter.unusedVariables false
namespace Go.Dv
open Go.Proofs
attribute [local congr] aF bC aY bB bD
theorem Ia {cs:List Cod} {m:List (List Int)} {ss:List (List Itm)} {f:Con} (h:gX cs m ss f=0):gX cs m ss fy=0:=by
 unfold gX at h ⊢
 cases h1:(uV f && vT cs) with
 | false =>
   rw [h1,ct] at h
   exact absurd h (by decide)
 | true =>
   rw [h1,dO] at h
   have hc:(uV fy && vT cs)=true:=by
     rw [aC] at h1 ⊢
     exact ⟨rfl,h1.2⟩
   rw [hc,dO]
   exact h
def flR (l:List (Itm × AV)):List (List AV):=l.map fun p=>aL p.1 p.2
theorem FQ (l:List (Itm × AV)):∀ r∈flR l,r.length=9:=fun r hr=>by
 obtain ⟨p,_,rfl⟩:=bL.1 hr
 rfl
theorem PY {G:AH} {l:List (Itm × AV)} (h:∀ p∈l,SlS 32 1 G p.2 (p.1.args.map dw)):(flR l).flatten.all AV.one=true:=by
 rw [List.all_eq_true]
 intro x hx
 obtain ⟨r,hr,hxr⟩:=vY.1 hx
 obtain ⟨p,hp,rfl⟩:=bL.1 hr
 have:=(h p hp).one
 simp only [aL,List.mem_cons,List.not_mem_nil,or_false] at hxr
 rcases hxr with rfl | rfl | rfl | rfl | rfl | rfl | rfl | rfl | rfl <;> first | rfl | exact this
theorem N4 {T es:Nat} {H:AH} {v:AV} {rows:List (List AV)} (h:SlS T es H v rows):Row H es v rows.flatten/\bA v=rows.length:=by
 rcases h.old with ⟨rfl,e⟩ | ⟨i,k,c,e,rfl,_,hr⟩
 · subst e; exact ⟨.nil,rfl⟩
 · exact ⟨.at _ _ _ _ _ _ hr,rfl⟩
def NB (G K:AH) (ss:List (List Itm)) (i:Nat) (v:AV):Prop:=∃ l:List (Itm × AV),l.map (·.1)=(ss.take i).flatten/\(∀ p∈l,SlS 32 1 G p.2 (p.1.args.map dw))/\Own G.length K 9 34 v (flR l).flatten
theorem Nn {G K:AH} {ss:List (List Itm)} {vs w v:AV} (hfew:ss.flatten.length<=1000) (hA:au G K) {i:Nat} (hi:i < ss.length) (hw:dY G (aW ss i) w) (h:NB G K ss i v):∃ v' K',f0 aa none 31 (some 31) v w K=some (v',K')/\au G K'/\NB G K' ss (i+1) v':=by
 obtain ⟨l,hl,hp,ho⟩:=h
 obtain ⟨⟨l2,hl2,hsl,hp2⟩,_,_,_,_⟩:=hw
 obtain ⟨hrow,hlen⟩:=N4 (hsl.same hA)
 have hflat:(ss.take (i+1)).flatten=(ss.take i).flatten++aW ss i:=by
   rw [List.take_add_one,ez]
   unfold aW
   rw [gde,List.getElem?_eq_getElem hi]
   simp
 have hn:(ss.take (i+1)).flatten.length<=ss.flatten.length:=by
   have:=List.take_append_drop (i+1) ss
   have h2:=congrArg (fun z=>(List.flatten z).length) this
   simp only [ez,ai] at h2
   omega
 rw [hflat,ai,<-hl,<-hl2,ar,ar] at hn
 have hvl:=ho.length
 rw [dM (FQ l),flR,ar] at hvl
 rw [ar] at hlen
 obtain ⟨v',K',he,h1,h2,_,_⟩:=yS GD hA ho hrow (PY hp2) (iD b34 (by omega))
 refine ⟨v',K',he,h1,l++l2,?_,?_,?_⟩
 · rw [eg,hl,hl2,hflat]
 · intro p hpm
   rcases List.mem_append.1 hpm with h | h
   · exact hp p h
   · exact hp2 p h
 · have e:(flR (l++l2)).flatten=(flR l).flatten++(l2.map fun p=>aL p.1 p.2).flatten:=by unfold flR; rw [eg,ez]
   rw [e]; exact h2
theorem QG {G K:AH} {ss:List (List Itm)} {vs v:AV} (hs:dy G ss vs) (hfew:ss.flatten.length<=1000) (hA:au G K) (h:NB G K ss ss.length v):dY K ss.flatten v:=by
 obtain ⟨l,hl,hp,ho⟩:=h
 rw [List.take_length] at hl
 have hx:∀ x∈ss.flatten,x.args.length < 2 ^ 50/\(∀ a∈x.args,e9 a)/\e9 x.word:=fun x hx=>by
   obtain ⟨r,h1,h2⟩:=vY.1 hx
   obtain ⟨⟨ls,e,_,hi⟩,_⟩:=hs
   rw [<-e] at h1
   obtain ⟨p,hp,rfl⟩:=bL.1 h1
   obtain ⟨_,_,a,b,c⟩:=hi p hp
   exact ⟨a x h2,b x h2,c x h2⟩
 exact ⟨⟨l,hl,Own.nB mJ (by decide) ho (FQ l),fun p h=>(hp p h).same hA⟩,by omega,fun x h=>(hx x h).1,fun x h=>(hx x h).2.1,fun x h=>(hx x h).2.2⟩
theorem Z6 {G:AH} {ss:List (List Itm)} {vs bv0 wv:AV} {pb:Nat} (hs:dy G ss vs) (hfew:ss.flatten.length<=1000) (hpb:∀ K,au G K->∀ L,ak (K++L) pb 2 1=some [vs]):∀ (d i:Nat) (tm:List AV) (K:AH) (Z:Option (bs × St)),EvC aa C0 W0 pl6 Xv (tm,K)=Z->ss.length - i=d->i<=ss.length->(tm.length=136/\tm.getD 1 uA=.ptr pb 0/\tm.getD 3 uA=bv0/\tm.getD 5 uA=wv/\tm.getD 8 uA=I ((i:Nat):Int)/\au G K/\∃ v,tm.getD 7 uA=v/\NB G K ss (i) v) ->
   ∃ X K1,Z=some (.exit 0,(X,K1))/\(X.length=136/\X.getD 1 uA=.ptr pb 0/\X.getD 3 uA=bv0/\X.getD 5 uA=wv/\X.getD 8 uA=I ((ss.length:Nat):Int)/\au G K1/\∃ v,X.getD 7 uA=v/\NB G K1 ss (ss.length) v):=by
 have hls:=hs.len
 have hsn:=hs.n
 intro d
 induction d with
 | zero =>
   intro i tm K Z hZ hd hi hI
   subst hZ
   have hil:i=ss.length:=by omega
   subst hil
   obtain ⟨hlen,h1,h3,h5,h8,hA,v,h7,hv⟩:=hI
   have hlt:ltB ((ss.length:Nat):Int) (ss.length:Nat)=false:=cH (by omega)
   have hr:=hpb K hA []
   rw [af] at hr
   rw [Sp]
   simp -implicitDefEqProofs only [QF,Tryz.f6,aP,hlen,h1,h3,h5,h7,h8,hr,pT,hls,hlt,r5,↓az,nck,↓cbT,↓cbF,↓ao,an,eu,sevalprocAttr]
   exact ⟨_,K,rfl,by simp only [ls,hlen],Aj4 (by simp only [hlen,h1,h3,h5,h8,gB,and_self,sevalprocAttr]) ⟨hA,v,by simp only [hlen,h7,gB,sevalprocAttr],hv⟩⟩
 | succ d ih =>
   intro i tm K Z hZ hd hi hI
   subst hZ
   have hil:i < ss.length:=by omega
   obtain ⟨hlen,h1,h3,h5,h8,hA,v,h7,hv⟩:=hI
   have hlt:ltB (i:Int) (ss.length:Nat)=true:=cD (by omega)
   have hw:=cp (j:=i) (by omega)
   have hr:=hpb K hA []
   obtain ⟨i0,k0,w,hix,hrd,hx⟩:=hs.at hA hil
   have hrd:=hrd []
   rw [af] at hr hrd
   obtain ⟨v',K',happ,hA',hv'⟩:=Nn (vs:=vs) hfew hA hil hx hv
   rw [Sp]
   simp -implicitDefEqProofs only [QF,Tryz.f6,aP,hlen,h1,h3,h5,h7,h8,hr,pT,hls,hlt,hw,hix,hrd,↓ck,happ,r5,↓az,nck,↓cbT,↓cbF,↓ao,an,eu,sevalprocAttr]
   generalize hX:EvC aa C0 W0 _ _ _=Z
   exact ih (i+1) _ _ _ hX (by omega) (by omega) ⟨by simp only [ls,hlen],Aj4 (by simp only [hlen,h1,h3,h5,h8,gB,and_self,sevalprocAttr]) ⟨hA',v',by simp only [hlen,h7,gB,sevalprocAttr],hv'⟩⟩
end Go.Dv
namespace Go.Dv
open Go.Proofs
attribute [local congr] aF bC aY bB bD
open Qu (bef)
theorem Oh {K:AH} {all vc va vb:AV} {x y:Itm} {N b ri ob pb ia ka ib kb i k wi wk:Nat} {is bb tt:Bool} {tm:List AV} (hlen:tm.length=136) (h1:tm.getD 1 uA=.ptr pb 0) (h3:tm.getD 3 uA=.bool is) (h5:tm.getD 5 uA=slN ob N) (h7:tm.getD 7 uA=all) (h9:tm.getD 9 uA=slN b N) (h10:tm.getD 10 uA=I (i:Int)) (h11:tm.getD 11 uA=I (k:Int)) (hi:i < N) (hk:k < N)
   (rO:ak K b i 1=some [slN ri N]) (rb:ak K ri k 1=some [.bool bb]) (rn:ak K ob i 1=some [I (wi:Int)]) (rn':ak K ob k 1=some [I (wk:Int)]) (rp:ak K pb 0 1=some [vc])
   (xi:∀ kk,aD aa 31 all (.int kk (i:Int))=some (.ptr ia ka)) (ra:ak K ia ka 9=some (aL x va)) (xk:∀ kk,aD aa 31 all (.int kk (k:Int))=some (.ptr ib kb)) (ra':ak K ib kb 9=some (aL y vb)) (h24:Ev aa C0 W0 24 [vc,.agg (aL x va),.agg (aL y vb)] K=some (.bool tt,K))
   (hb:bb=true->wi < wk) (ht:is=true->i≠k->wi=wk->tt=false) :
   ∃ tm',EvC aa C0 W0 pl6 (aI [true,true,true,true,true,true,true,true,true,false,true,false,false,true,false,false,true,false,false,true,false,false,false] c6) (tm,K)=some (.normal,(tm',K))/\tm'.length=136/\tm'.getD 134 uA=.bool false/\tm'.getD 1 uA=tm.getD 1 uA/\tm'.getD 3 uA=tm.getD 3 uA/\tm'.getD 5 uA=tm.getD 5 uA/\tm'.getD 7 uA=tm.getD 7 uA/\tm'.getD 9 uA=tm.getD 9 uA/\tm'.getD 10 uA=tm.getD 10 uA/\tm'.getD 11 uA=tm.getD 11 uA:=by
 have x9:=fun kk=>KN b hi kk
 have x59:=fun kk=>KM ri hk kk
 have x5:=fun kk=>ixN ob hi kk
 have x5':=fun kk=>ixN ob hk kk
 cases bb with
 | false =>
   cases is with
   | false =>
     simp -implicitDefEqProofs only [c6,Tryz.f6,aP,hlen,h1,h3,h5,h7,h9,h10,h11,x9,x59,x5,x5',rO,rb,rn,rn',rp,xi,xk,ra,ra',iO,nW,nV,m4,vy,↓Cz,h24,r5,↓az,nck,↓cbT,↓cbF,↓ao,an,eu,sevalprocAttr]
     exact ⟨_,rfl,by simp only [ls,hlen],by simp only [hlen,aq,h1,h3,h5,h7,h9,h10,h11,gB,and_self,sevalprocAttr]⟩
   | true =>
     by_cases e1:i=k
     · have e1:=kH (a:=(i:Int)) (b:=(k:Int)) (by omega)
       simp -implicitDefEqProofs only [c6,Tryz.f6,aP,hlen,h1,h3,h5,h7,h9,h10,h11,x9,x59,x5,x5',rO,rb,rn,rn',rp,xi,xk,ra,ra',e1,iO,nW,nV,m4,vy,↓Cz,h24,r5,↓az,nck,↓cbT,↓cbF,↓ao,an,eu,sevalprocAttr]
       exact ⟨_,rfl,by simp only [ls,hlen],by simp only [hlen,aq,h1,h3,h5,h7,h9,h10,h11,gB,and_self,sevalprocAttr]⟩
     · have e2:=fU (a:=(i:Int)) (b:=(k:Int)) (by omega)
       by_cases e3:wi=wk
       · have e4:=kH (a:=(wi:Int)) (b:=(wk:Int)) (by omega)
         have htt:=ht rfl e1 e3
         subst htt
         simp -implicitDefEqProofs only [c6,Tryz.f6,aP,hlen,h1,h3,h5,h7,h9,h10,h11,x9,x59,x5,x5',rO,rb,rn,rn',rp,xi,xk,ra,ra',e2,e4,iO,nW,nV,m4,vy,↓Cz,h24,r5,↓az,nck,↓cbT,↓cbF,↓ao,an,eu,sevalprocAttr]
         exact ⟨_,rfl,by simp only [ls,hlen],by simp only [hlen,aq,h1,h3,h5,h7,h9,h10,h11,gB,and_self,sevalprocAttr]⟩
       · have e4:=fU (a:=(wi:Int)) (b:=(wk:Int)) (by omega)
         simp -implicitDefEqProofs only [c6,Tryz.f6,aP,hlen,h1,h3,h5,h7,h9,h10,h11,x9,x59,x5,x5',rO,rb,rn,rn',rp,xi,xk,ra,ra',e2,e4,iO,nW,nV,m4,vy,↓Cz,h24,r5,↓az,nck,↓cbT,↓cbF,↓ao,an,eu,sevalprocAttr]
         exact ⟨_,rfl,by simp only [ls,hlen],by simp only [hlen,aq,h1,h3,h5,h7,h9,h10,h11,gB,and_self,sevalprocAttr]⟩
 | true =>
   have hb:=hb rfl
   have e0:leB (wk:Int) (wi:Int)=false:=(mG _ _).2 (by omega)
   cases is with
   | false =>
     simp -implicitDefEqProofs only [c6,Tryz.f6,aP,hlen,h1,h3,h5,h7,h9,h10,h11,x9,x59,x5,x5',rO,rb,rn,rn',rp,xi,xk,ra,ra',e0,iO,nW,nV,m4,vy,↓Cz,h24,r5,↓az,nck,↓cbT,↓cbF,↓ao,an,eu,sevalprocAttr]
     exact ⟨_,rfl,by simp only [ls,hlen],by simp only [hlen,aq,h1,h3,h5,h7,h9,h10,h11,gB,and_self,sevalprocAttr]⟩
   | true =>
     by_cases e1:i=k
     · have e1:=kH (a:=(i:Int)) (b:=(k:Int)) (by omega)
       simp -implicitDefEqProofs only [c6,Tryz.f6,aP,hlen,h1,h3,h5,h7,h9,h10,h11,x9,x59,x5,x5',rO,rb,rn,rn',rp,xi,xk,ra,ra',e0,e1,iO,nW,nV,m4,vy,↓Cz,h24,r5,↓az,nck,↓cbT,↓cbF,↓ao,an,eu,sevalprocAttr]
       exact ⟨_,rfl,by simp only [ls,hlen],by simp only [hlen,aq,h1,h3,h5,h7,h9,h10,h11,gB,and_self,sevalprocAttr]⟩
     · have e2:=fU (a:=(i:Int)) (b:=(k:Int)) (by omega)
       by_cases e3:wi=wk
       · have e4:=kH (a:=(wi:Int)) (b:=(wk:Int)) (by omega)
         have htt:=ht rfl e1 e3
         subst htt
         simp -implicitDefEqProofs only [c6,Tryz.f6,aP,hlen,h1,h3,h5,h7,h9,h10,h11,x9,x59,x5,x5',rO,rb,rn,rn',rp,xi,xk,ra,ra',e0,e2,e4,iO,nW,nV,m4,vy,↓Cz,h24,r5,↓az,nck,↓cbT,↓cbF,↓ao,an,eu,sevalprocAttr]
         exact ⟨_,rfl,by simp only [ls,hlen],by simp only [hlen,aq,h1,h3,h5,h7,h9,h10,h11,gB,and_self,sevalprocAttr]⟩
       · have e4:=fU (a:=(wi:Int)) (b:=(wk:Int)) (by omega)
         simp -implicitDefEqProofs only [c6,Tryz.f6,aP,hlen,h1,h3,h5,h7,h9,h10,h11,x9,x59,x5,x5',rO,rb,rn,rn',rp,xi,xk,ra,ra',e0,e2,e4,iO,nW,nV,m4,vy,↓Cz,h24,r5,↓az,nck,↓cbT,↓cbF,↓ao,an,eu,sevalprocAttr]
         exact ⟨_,rfl,by simp only [ls,hlen],by simp only [hlen,aq,h1,h3,h5,h7,h9,h10,h11,gB,and_self,sevalprocAttr]⟩
theorem I8 {K:AH} {all vc va vb:AV} {x y:Itm} {N b ri ob pb ia ka ib kb i k wi wk:Nat} {is bb tt:Bool} {tm:List AV} (hlen:tm.length=136) (h1:tm.getD 1 uA=.ptr pb 0) (h3:tm.getD 3 uA=.bool is) (h5:tm.getD 5 uA=slN ob N) (h7:tm.getD 7 uA=all) (h9:tm.getD 9 uA=slN b N) (h10:tm.getD 10 uA=I (i:Int)) (h11:tm.getD 11 uA=I (k:Int)) (hi:i < N) (hk:k < N)
   (rO:ak K b i 1=some [slN ri N]) (rb:ak K ri k 1=some [.bool bb]) (rn:ak K ob i 1=some [I (wi:Int)]) (rn':ak K ob k 1=some [I (wk:Int)]) (rp:ak K pb 0 1=some [vc])
   (xi:∀ kk,aD aa 31 all (.int kk (i:Int))=some (.ptr ia ka)) (ra:ak K ia ka 9=some (aL x va)) (xk:∀ kk,aD aa 31 all (.int kk (k:Int))=some (.ptr ib kb)) (ra':ak K ib kb 9=some (aL y vb)) (h24:Ev aa C0 W0 24 [vc,.agg (aL x va),.agg (aL y vb)] K=some (.bool tt,K))
   (hb:bb=true->wi < wk) (ht:is=true->i≠k->wi=wk->tt=false) {R:Option (bs × St)} (hR:EvC aa C0 W0 pl6 (aI [true,true,true,true,true,true,true,true,true,false,true,false,false,true,false,false,true,false,false,true,false,false,false] c6) (tm,K)=R) :
   ∃ tm',R=some (.normal,(tm',K))/\tm'.length=136/\tm'.getD 134 uA=.bool false/\tm'.getD 1 uA=tm.getD 1 uA/\tm'.getD 3 uA=tm.getD 3 uA/\tm'.getD 5 uA=tm.getD 5 uA/\tm'.getD 7 uA=tm.getD 7 uA/\tm'.getD 9 uA=tm.getD 9 uA/\tm'.getD 10 uA=tm.getD 10 uA/\tm'.getD 11 uA=tm.getD 11 uA:=by
 subst hR
 exact Oh hlen h1 h3 h5 h7 h9 h10 h11 hi hk rO rb rn rn' rp xi ra xk ra' h24 hb ht
theorem SX {K:AH} {cs:List Cod} {m:List (List Int)} {ss:List (List Itm)} {vc all:AV} {lo b ob pb:Nat} {r:Nat->Nat} {w:List Nat} {is:Bool} (hc:dk K cs vc) (hcp:∀ c∈cs,c.params.length<=6) (h6:m.length<=6) (hrt:∀ x∈ss.flatten,b6 cs m x=true) (hI:dY K ss.flatten all) (hfew:ss.flatten.length<=1000) (hM:jY 59 4 lo K b ss.flatten.length ss.flatten.length r (bef (qS ss))) (hw:nJ K ob w) (hwl:w.length=ss.flatten.length) (hpb:ak K pb 0 1=some [vc]) (hW:∀ i k,i < ss.flatten.length->k < ss.flatten.length->(bef (qS ss) i k=true->w.getD i 0 < w.getD k 0)/\(is=true->i≠k->w.getD i 0=w.getD k 0->iV cs (bz ss.flatten i) (bz ss.flatten k)=false)) {i:Nat} (hi:i < ss.flatten.length):∀ (d k:Nat) (tm:List AV) (Z:Option (bs × St)),EvC aa C0 W0 pl6 Xu (tm,K)=Z->ss.flatten.length - k=d->k<=ss.flatten.length->(tm.length=136/\tm.getD 1 uA=.ptr pb 0/\tm.getD 3 uA=.bool is/\tm.getD 5 uA=slN ob ss.flatten.length/\tm.getD 7 uA=all/\tm.getD 9 uA=slN b ss.flatten.length/\tm.getD 10 uA=I (i:Int)/\tm.getD 11 uA=I ((k:Nat):Int)) ->
   ∃ X,Z=some (.exit 4,(X,K))/\(X.length=136/\X.getD 1 uA=.ptr pb 0/\X.getD 3 uA=.bool is/\X.getD 5 uA=slN ob ss.flatten.length/\X.getD 7 uA=all/\X.getD 9 uA=slN b ss.flatten.length/\X.getD 10 uA=I (i:Int)/\X.getD 11 uA=I ((ss.flatten.length:Nat):Int)):=by
 have hln:=hI.len
 intro d
 induction d with
 | zero =>
   intro k tm Z hZ hd hk hJ
   subst hZ
   have hkl:k=ss.flatten.length:=by omega
   subst hkl
   obtain ⟨hlen,h1,h3,h5,h7,h9,h10,h11⟩:=hJ
   have hlt:ltB ((ss.flatten.length:Nat):Int) (ss.flatten.length:Nat)=false:=cH (by omega)
   rw [So]
   simp -implicitDefEqProofs only [QE,Tryz.f6,aP,hlen,h1,h3,h5,h7,h9,h10,h11,hln,hlt,r5,↓az,nck,↓cbT,↓cbF,↓ao,an,eu,sevalprocAttr]
   exact ⟨_,rfl,by simp only [ls,hlen],by simp only [hlen,h1,h3,h5,h7,h9,h10,h11,gB,and_self,sevalprocAttr]⟩
 | succ d ih =>
   intro k tm Z hZ hd hk hJ
   subst hZ
   have hkN:k < ss.flatten.length:=by omega
   obtain ⟨hlen,h1,h3,h5,h7,h9,h10,h11⟩:=hJ
   have hlt:ltB (k:Int) (ss.flatten.length:Nat)=true:=cD (by omega)
   have hwi:=cp (j:=k) (by omega)
   obtain ⟨ia,ka,va,xi,ra,sx⟩:=hI.at (au.refl K) hi
   obtain ⟨ib,kb,vb,xk,rb,sy⟩:=hI.at (au.refl K) hkN
   have q1:=ra []
   have q2:=rb []
   have q3:=hM.rdO hi []
   have q4:=hM.rdC hi hkN []
   rw [af] at q1 q2 q3 q4
   have h24:=ada hc hcp sx sy (hrt _ (fi hi)) (hrt _ (fi hkN)) h6
   obtain ⟨w1,w2⟩:=hW i k hi hkN
   rw [So]
   simp -implicitDefEqProofs only [QE,Tryz.f6,aP,hlen,h1,h3,h5,h7,h9,h10,h11,hln,hlt,r5,↓az,nck,↓cbT,↓cbF,↓ao,an,eu,sevalprocAttr]
   generalize hR:EvC aa C0 W0 _ (Code.region _ _ _) _=R
   obtain ⟨t,he,tl,t134,t1,t3,t5,t7,t9,t10,t11⟩:=I8 (by simp only [ls,hlen]) (by simp only [hlen,h1,gB,sevalprocAttr]) (by simp only [hlen,h3,gB,sevalprocAttr]) (by simp only [hlen,h5,gB,sevalprocAttr]) (by simp only [hlen,h7,gB,sevalprocAttr]) (by simp only [hlen,h9,gB,sevalprocAttr]) (by simp only [hlen,h10,gB,sevalprocAttr]) (by simp only [hlen,h11,gB,sevalprocAttr]) hi hkN q3 q4 (hw.rd (by omega)) (hw.rd (by omega)) hpb xi q1 xk q2 h24 w1 w2 hR
   subst he
   simp only [hlen,h1,h3,h5,h7,h9,h10,h11,gB,sevalprocAttr] at t1 t3 t5 t7 t9 t10 t11
   simp -implicitDefEqProofs only [aP,tl,t134,t1,t3,t5,t7,t9,t10,t11,hwi,r5,↓az,nck,↓cbT,↓cbF,↓ao,an,eu,sevalprocAttr]
   generalize hX:EvC aa C0 W0 _ _ _=Z
   exact ih (k+1) _ _ hX (by omega) (by omega) ⟨by simp only [ls,tl],by simp only [tl,t1,t3,t5,t7,t9,t10,t11,gB,and_self,sevalprocAttr]⟩
theorem NT {K:AH} {cs:List Cod} {m:List (List Int)} {ss:List (List Itm)} {vc all:AV} {lo b ob pb:Nat} {r:Nat->Nat} {w:List Nat} {is:Bool} (hc:dk K cs vc) (hcp:∀ c∈cs,c.params.length<=6) (h6:m.length<=6) (hrt:∀ x∈ss.flatten,b6 cs m x=true) (hI:dY K ss.flatten all) (hfew:ss.flatten.length<=1000) (hM:jY 59 4 lo K b ss.flatten.length ss.flatten.length r (bef (qS ss))) (hw:nJ K ob w) (hwl:w.length=ss.flatten.length) (hpb:ak K pb 0 1=some [vc]) (hW:∀ i k,i < ss.flatten.length->k < ss.flatten.length->(bef (qS ss) i k=true->w.getD i 0 < w.getD k 0)/\(is=true->i≠k->w.getD i 0=w.getD k 0->iV cs (bz ss.flatten i) (bz ss.flatten k)=false)):∀ (d i:Nat) (tm:List AV) (Z:Option (bs × St)),EvC aa C0 W0 pl6 Xt (tm,K)=Z->ss.flatten.length - i=d->i<=ss.flatten.length->(tm.length=136/\tm.getD 1 uA=.ptr pb 0/\tm.getD 3 uA=.bool is/\tm.getD 5 uA=slN ob ss.flatten.length/\tm.getD 7 uA=all/\tm.getD 9 uA=slN b ss.flatten.length/\tm.getD 10 uA=I ((i:Nat):Int)) ->
   ∃ X,Z=some (.exit 2,(X,K))/\(X.length=136/\X.getD 1 uA=.ptr pb 0/\X.getD 3 uA=.bool is/\X.getD 5 uA=slN ob ss.flatten.length/\X.getD 7 uA=all/\X.getD 9 uA=slN b ss.flatten.length/\X.getD 10 uA=I ((ss.flatten.length:Nat):Int)):=by
 have hln:=hI.len
 intro d
 induction d with
 | zero =>
   intro i tm Z hZ hd hi hJ
   subst hZ
   have hil:i=ss.flatten.length:=by omega
   subst hil
   obtain ⟨hlen,h1,h3,h5,h7,h9,h10⟩:=hJ
   have hlt:ltB ((ss.flatten.length:Nat):Int) (ss.flatten.length:Nat)=false:=cH (by omega)
   rw [Sn]
   simp -implicitDefEqProofs only [QD,Tryz.f6,aP,hlen,h1,h3,h5,h7,h9,h10,hln,hlt,r5,↓az,nck,↓cbT,↓cbF,↓ao,an,eu,sevalprocAttr]
   exact ⟨_,rfl,by simp only [ls,hlen],by simp only [hlen,h1,h3,h5,h7,h9,h10,gB,and_self,sevalprocAttr]⟩
 | succ d ih =>
   intro i tm Z hZ hd hi hJ
   subst hZ
   have hiN:i < ss.flatten.length:=by omega
   obtain ⟨hlen,h1,h3,h5,h7,h9,h10⟩:=hJ
   have hlt:ltB (i:Int) (ss.flatten.length:Nat)=true:=cD (by omega)
   have hwi:=cp (j:=i) (by omega)
   rw [Sn]
   simp -implicitDefEqProofs only [QD,Tryz.f6,aP,hlen,h1,h3,h5,h7,h9,h10,hln,hlt,r5,↓az,nck,↓cbT,↓cbF,↓ao,an,eu,sevalprocAttr]
   generalize hX:EvC aa C0 W0 pl6 (Code.loop _) _=Z
   obtain ⟨X,he,xl,x1,x3,x5,x7,x9,x10,x11⟩:=SX hc hcp h6 hrt hI hfew hM hw hwl hpb hW hiN _ 0 _ _ hX rfl (cX _) ⟨by simp only [ls,hlen],Aj6 (by simp only [hlen,h1,h3,h5,h7,h9,h10,gB,and_self,sevalprocAttr]) (by simp only [hlen,gB,sevalprocAttr]; try rfl)⟩
   subst he
   simp -implicitDefEqProofs only [aP,xl,x1,x3,x5,x7,x9,x10,hwi,r5,↓az,nck,↓cbT,↓cbF,↓ao,an,eu,sevalprocAttr]
   generalize hY:EvC aa C0 W0 _ _ _=Z
   exact ih (i+1) _ _ hY (by omega) (by omega) ⟨by simp only [ls,xl],by simp only [xl,x1,x3,x5,x7,x9,x10,gB,and_self,sevalprocAttr]⟩
end Go.Dv
namespace Go.Dv
open Go.Proofs
attribute [local congr] aF bC aY bB bD
theorem ev6 {H:AH} {cs:List Cod} {m:List (List Int)} {ss:List (List Itm)} {vc vm vs:AV} (hc:dk H cs vc) (hm:dZ H m vm) (hs:dy H ss vs) (f:Con):∃ K,Ev aa C0 W0 6 [.agg [vc,vm,vs,I f.w,.bool f.free,I f.cores,I f.slots,I f.room,I f.pol,I f.lat]] H=some (.bool true,K):=by
 obtain ⟨tm,ht,g0,g1⟩:=tm1 (.agg [vc,vm,vs,I f.w,.bool f.free,I f.cores,I f.slots,I f.room,I f.pol,I f.lat]) 136 (by decide)
 rw [fe6,ht]
 have e00:eqB 0 0=true:=rfl
 have e11:eqB 11 11=true:=rfl
 have e110:eqB 11 0=false:=rfl
 have hxl:∀ l∈ss,l.length < 2 ^ 50:=fun xs hx=>by
   obtain ⟨⟨l2,e2,_,h2⟩,_⟩:=hs
   rw [<-e2] at hx
   obtain ⟨p,hp,rfl⟩:=bL.1 hx
   exact (h2 p hp).n
 have hA0:=au.app H [.cells [vc,vm,vs,I f.w,.bool f.free,I f.cores,I f.slots,I f.room,I f.pol,I f.lat] 29]
 have hpl:(H++[bl.cells [vc,vm,vs,I f.w,.bool f.free,I f.cores,I f.slots,I f.room,I f.pol,I f.lat] 29])[H.length]? =some (.cells [vc,vm,vs,I f.w,.bool f.free,I f.cores,I f.slots,I f.room,I f.pol,I f.lat] 29):=by rw [List.getElem?_append_right (Nat.le_refl _),Nat.sub_self]; rfl
 have hput:∀ o,put none H o=some (H.length,H++[o]):=fun _=>rfl
 have hc0:=hc.bg hA0
 have hm0:=hm.bg hA0
 have hs0:=hs.bg hA0
 generalize hKe:H++[bl.cells [vc,vm,vs,I f.w,.bool f.free,I f.cores,I f.slots,I f.room,I f.pol,I f.lat] 29]=G1 at *
 have ra:ak G1 H.length 0 10=some [vc,vm,vs,I f.w,.bool f.free,I f.cores,I f.slots,I f.room,I f.pol,I f.lat]:=by unfold ak; rw [hpl]; rfl
 have h8:=ev8 hc0 hm0 hs0 f
 have h9:=ev9 G1
 cases hr:Oe cs m ss f with
 | false =>
   rw [hr] at h8
   refine ⟨G1,?_⟩
   simp -implicitDefEqProofs only [c6,Tryz.f6,aP,g0,g1,hput,hKe,ra,HB,↓fc8,h8,↓fc9,h9,r5,↓az,nck,↓cbT,↓cbF,↓ao,an,eu,sevalprocAttr]
 | true =>
   rw [hr] at h8
   have hk:gX cs m ss f=0:=by
     unfold Oe at hr
     rw [aC,cU] at hr
     exact hr.2
   have hg:=tz hxl hk
   have hkp:=Ia hk
   have hgp:=tz hxl hkp
   have hfew:ss.flatten.length<=1000:=by
     have:=hg.few
     rw [List.length_flatten]
     omega
   have h18:=Y1 hc0 hm0 hs0 hkp hgp
   obtain ⟨v1,e1,K2,h19,S2,_,hW1⟩:=ade hc0 hm0 hs0 hkp hgp
   have rd1:∀ {K:AH},Sub G1 K->∀ i n xs,(([vc,vm,vs,I f.w,.bool f.free,I f.cores,I f.slots,I f.room,I f.pol,I f.lat]:List AV).drop i).take n=xs->i+n<=10->ak K H.length i n=some xs:=fun h i n xs e hin=>h.rd (by unfold ak; rw [hpl]; simp only [List.length_cons,List.length_nil]; rw [if_pos (by omega),e])
   have S1:=(au.refl G1).sub
   have a0:=rd1 S1 0 1 [vc] rfl (by decide)
   have a1:=rd1 S1 1 1 [vm] rfl (by decide)
   have a2:=rd1 S1 2 1 [vs] rfl (by decide)
   have h92:=ev9 K2
   rcases hW1 with ⟨rfl,rfl,_⟩ | ⟨rfl,hall,w,Ds,bb,ob,rfl,hnum,_,hwl,hko⟩
   · refine ⟨K2,?_⟩
     simp -implicitDefEqProofs only [c6,Tryz.f6,aP,g0,g1,hput,hKe,ra,HB,↓fc8,h8,a0,a1,a2,iO,yB,pT,↓UL,h18,↓YD,h19,↓fc9,h92,e00,e11,e110,r5,↓az,nck,↓cbT,↓cbF,↓ao,an,eu,sevalprocAttr]
   · have hs2:=hs0.sub S2
     have hpb:∀ K,au K2 K->∀ L,ak (K++L) H.length 2 1=some [vs]:=fun K h L=>rd1 (S2.trans (h.bS L).sub) 2 1 [vs] rfl (by decide)
     have hrt:=zZ hg
     simp -implicitDefEqProofs only [c6,Tryz.f6,aP,g0,g1,hput,hKe,ra,HB,↓fc8,h8,a0,a1,a2,iO,yB,pT,↓UL,h18,↓YD,h19,e00,r5,↓az,nck,↓cbT,↓cbF,↓ao,an,eu,sevalprocAttr]
     generalize hX:EvC aa C0 W0 pl6 (Code.loop _) _=Z
     obtain ⟨X,K3,he,x0,x1,x3,x5,x8,A3,va,x7,hall3⟩:=Z6 (pb:=H.length) (bv0:=.bool (B2 cs ss)) (wv:=slN ob w.length) hs2 hfew hpb _ 0 _ _ _ hX rfl (cX _) ⟨by simp only [ls,g0],Aj3 (by simp only [g0,gB,and_self,sevalprocAttr]) ⟨by simp only [g0,gB,sevalprocAttr]; try rfl,au.refl _,.nilSlice,by simp only [g0,gB,sevalprocAttr],[],rfl,fun p h=>(by cases h),.nil⟩⟩
     subst he
     have hI3:=QG hs2 hfew A3 hall3
     have hs3:=hs2.bg A3
     have r3:=hpb K3 A3 []
     rw [af] at r3
     have hev:∀ i,i < ss.flatten.length->(itP ss i).kind=3->∃ e:Nat,(itP ss i).ev=e/\e < 16:=fun i hi h3=>by
       obtain ⟨_,p2,p3,_⟩:=s7 hi
       have:=(xy (x:=itP ss i) (hg.it _ (iM p2) _ (fi p3)) hg.nm).2.2 (.inl h3)
       exact ⟨(itP ss i).ev.toNat,by omega,by omega⟩
     obtain ⟨lo,bm,r,K4,h23,A4,hM⟩:=adb hs3 hfew hev
     have hI4:=hI3.bg A4
     have hln:=hI4.len
     have hl30:dQ aa 30 K4 (slN ob w.length)=some (I (w.length:Nat)):=W1 _ _ _ _ _ _ _
     have hlw:eqB ((ss.flatten.length:Nat):Int) (ss.flatten.length:Nat)=true:=bw _
     rw [hwl] at x5 hl30
     simp -implicitDefEqProofs only [aP,x0,x1,x3,x5,x7,x8,r3,pT,↓acn,h23,hl30,hln,hlw,r5,↓az,nck,↓cbT,↓cbF,↓ao,an,eu,sevalprocAttr]
     generalize hY:EvC aa C0 W0 pl6 (Code.loop _) _=Z
     have S4:=(S2.bg A3).bg A4
     obtain ⟨Y,he,y0,_⟩:=NT (pb:=H.length) (is:=B2 cs ss) (hc0.sub S4) (fun c h=>(hg.cod c h).1) hg.nm hrt hI4 hfew hM (A4.get (A3.get hnum)) hwl (rd1 S4 0 1 [vc] rfl (by decide)) (fun i k hi hk=>GW hg hall hko hi hk) _ 0 _ _ hY rfl (cX _) ⟨by simp only [ls,x0],Aj5 (by simp only [x0,x1,x3,x5,x7,gB,and_self,sevalprocAttr]) (by simp only [x0,gB,sevalprocAttr]; try rfl)⟩
     subst he
     have h94:=ev9 K4
     refine ⟨K4,?_⟩
     simp -implicitDefEqProofs only [aP,y0,↓fc9,h94,r5,↓az,nck,↓cbT,↓cbF,↓ao,an,eu,sevalprocAttr]
end Go.Dv
