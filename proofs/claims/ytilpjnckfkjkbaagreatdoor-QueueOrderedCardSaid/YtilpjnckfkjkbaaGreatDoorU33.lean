/- Part 33 of the walks (own work). -/
import Derived.Test.YtilpjnckfkjkbaaGreatDoorU32
open Int renaming toNat_natCast→cN
open List renaming any_cons→cW,any_nil→dz,any_toArray→cj,any_toArray'→dn,append_assoc→aD,append_nil→af,getElem?_append_left→ar,getElem?_append_right→al,getElem?_set_ne→ay,getElem?_set_self→bG,length_append→ai,length_drop→Jj,length_map→ao,length_set→aq,length_singleton→eM,length_take→dR,replicate_succ→cQ,replicate_zero→cG,size_toArray→dm,take_of_length_le→bt
open Nat renaming add_assoc→bN,add_mul→eE,le_refl→aw,le_trans→bh,mul_one→dM,one_mul→jG,zero_le→aV
open Option renaming bind_some→ax,map_some→cH
open Go.Proofs.Tryz renaming prog→aa
set_option maxRecDepth 100000
set_option maxHeartbeats 4000000
set_option linter.unusedSimpArgs false
set_option linter.unusedVariables false
open Go.Proofs.Tryz (f49 f51)
namespace Go.Dv
open Go.Proofs
attribute [local congr] aA bC aT bB bD
open Qu (off di places)
def plR (l:List (Nat × Nat)):List (List AV):=l.map fun p=>[I (p.1:Int),I (p.2:Int)]
theorem A7 (l:List (Nat × Nat)):∀ r∈plR l,r.length=2:=fun r hr=>by
 obtain ⟨p,_,rfl⟩:=List.mem_map.1 hr
 rfl
theorem Y0 (i k es len cap:Nat) (ex:Bool) (kk:IntKind) (n:Int):aC aa 104 (.slice i k es len cap ex) (.int kk n)=if 0<=n/\n < len/\2=es then some (.ptr i (k+n.toNat * es)) else none:=by kernel_rfl
theorem Yr (H:AH) (i k es len cap:Nat) (ex:Bool):d4 aa 104 H (.slice i k es len cap ex)=some (.int .i64 len):=by kernel_rfl
theorem VB (H:AH):d4 aa 104 H .nilSlice=some (.int .i64 0):=by kernel_rfl
theorem LY:IxT 104 2:=⟨VB,Yr,Y0⟩
theorem abm:pC aa 104 (some 104) 107 2:=⟨by kernel_rfl,⟨(d8 aa 107).getD uA,by kernel_rfl,by kernel_rfl,by (have h:((d8 aa 107).getD uA).cells.length=2:=by kernel_rfl); intro e; rw [e] at h; cases h⟩,by kernel_rfl,by kernel_rfl⟩
theorem aaX:aa.bytesOf 107=16:=by kernel_rfl
theorem Wz (a b:AV) (H:AH):bn aa none 104 1 [(0,.agg [a,b])] H=some (.slice H.length 0 2 1 1 true,H++[.cells [a,b] 107]):=by kernel_rfl
theorem abf (a b:Int):iV aa 107 [(0,I a),(1,I b)]=some (.agg [I a,I b]):=by kernel_rfl
theorem aba (a b:AV) (H L:AH):bn aa none 104 1 [(0,.agg [a,b])] (H++L)=some (.slice (H.length+L.length) 0 2 1 1 true,H++(L++[.cells [a,b] 107])):=by rw [Wz,ai,aD]
theorem WH {G K:AH} {v:AV} {l:List (Nat × Nat)} (hA:an G K) (ho:Own G.length K 2 107 v (plR l).flatten) (hl:l.length < 2 ^ 30) (s k:Nat) :
   ∃ v' K',fV aa none 104 (some 104) v (.slice K.length 0 2 1 1 true) (K++[.cells [I (s:Int),I (k:Int)] 107])=some (v',K')/\an G K'/\Own G.length K' 2 107 v' (plR (l++[(s,k)])).flatten:=by have hlen:=ho.length;rw [d5 (A7 l),plR,ao] at hlen;have ho':Own G.length (K++[.cells [I (s:Int),I (k:Int)] 107]) 2 107 v (plR l).flatten:=ho.aZ (an.app _ _);have hrow:Row (K++[.cells [I (s:Int),I (k:Int)] 107]) 2 (.slice K.length 0 2 1 1 true) [I (s:Int),I (k:Int)]:=.at _ _ _ _ _ _ (by rw [gj]; rfl);obtain ⟨v',K',he,h1,h2,h3,h4⟩:=ze abm (hA.bX _) ho' hrow rfl (by rw [aaX,cp]; unfold gf; rw [Bool.and_eq_true,decide_eq_true_iff,decide_eq_true_iff]; constructor <;> omega);exact ⟨v',K',he,h1,by unfold plR at h2 ⊢; rw [List.map_append,List.flatten_append]; exact h2⟩
theorem Qz {ss:List (List Itm)} {i j:Nat} (hj:j < (aM ss i).length):(places (qS ss)).take (off (qS ss) i+j+1)=(places (qS ss)).take (off (qS ss) i+j)++[(i,j)]:=by have h:=Qu.oP (nv hj);rw [List.take_add_one,h]; rfl
theorem YR {G:AH} {ss:List (List Itm)} {vs:AV} (hs:cT G ss vs) (hfew:ss.flatten.length<=1000) {i:Nat} (hi:i < ss.length)  (hN:(aM ss i).length < 2 ^ 60):∀ (d j:Nat) (tm:List AV) (K:AH) (Z:Option (bk × St)),EvC aa C0 W0 plN SL (tm,K)=Z->(aM ss i).length - j=d->j<=(aM ss i).length->(tm.length=28/\an G K/\tm.getD 0 uA=vs/\tm.getD 4 uA=I (i:Nat)/\tm.getD 5 uA=I ((j:Nat):Int)/\∃ v,tm.getD 3 uA=v/\Own G.length K 2 107 v (plR ((places (qS ss)).take (off (qS ss) i+(j)))).flatten) ->
   ∃ X K1,Z=some (.exit 2,(X,K1))/\(X.length=28/\an G K1/\X.getD 0 uA=vs/\X.getD 4 uA=I (i:Nat)/\X.getD 5 uA=I (((aM ss i).length:Nat):Int)/\∃ v,X.getD 3 uA=v/\Own G.length K1 2 107 v (plR ((places (qS ss)).take (off (qS ss) i+((aM ss i).length)))).flatten):=by
 intro d;induction d with
 | zero =>
   intro j tm K Z hZ hd hj hI;subst hZ;have hjl:j=(aM ss i).length:=by omega
   subst hjl;have hI0:=hI;obtain ⟨hlen,hA,h0,h4,h5,v,h3,ho⟩:=hI;have hlt:ltB ((((aM ss i).length:Nat)):Int) ((aM ss i).length:Nat)=false:=cw (by omega);obtain ⟨i0,k0,w0,hix0,hrd0,hxs⟩:=hs.at hA hi;have hln:=hxs.len;have hrd0':=hrd0 [];rw [af] at hrd0';rw [No];simp -implicitDefEqProofs only [GP,f51,aP,hlen,h0,h4,h5,h3,hlt,hix0,hrd0',hln,↓zzC,zzE,sevalprocAttr];refine ⟨_,K,rfl,?_⟩;exact ⟨by first | exact hlen | simp only [aq,hlen],hA,Aj3 (by simp only [hlen,h0,h4,h5,gB,and_self,sevalprocAttr]) ⟨v,by simp only [hlen,h3,gB,sevalprocAttr],ho⟩⟩
 | succ d ih =>
   intro j tm K Z hZ hd hj hI;subst hZ;have hI0:=hI;obtain ⟨hlen,hA,h0,h4,h5,v,h3,ho⟩:=hI;have hjN:j < (aM ss i).length:=by omega
   have hlt:ltB (j:Int) ((aM ss i).length:Nat)=true:=cu (by omega);have hw:=b6 (j:=j) (by omega);obtain ⟨i0,k0,w0,hix0,hrd0,hxs⟩:=hs.at hA hi;have hln:=hxs.len;obtain ⟨v',K',happ,hA',ho'⟩:=WH hA ho (by rw [dR]; have:=Qu.oO (qS ss); rw [gM,ao] at this; omega) i j;rw [No];rw [<-af K];simp -implicitDefEqProofs only [GP,f51,aP,hlen,h0,h4,h5,h3,hlt,hw,hix0,hrd0,hln,abf,aba,↓bS,↓fO,happ,↓zzC,zzE,sevalprocAttr];generalize hX:EvC aa C0 W0 _ _ _=Z;refine ih (j+1) _ _ _ hX (by omega) (by omega) ?_;exact ⟨by simp only [ls,hlen],hA',Aj3 (by simp only [hlen,h0,h4,h5,gB,and_self,sevalprocAttr]) ⟨v',by simp only [hlen,h3,gB,sevalprocAttr],by rw [<-bN,Qz hjN]; exact ho'⟩⟩
theorem VH {G:AH} {ss:List (List Itm)} {vs:AV} (hs:cT G ss vs) (hfew:ss.flatten.length<=1000):∀ (d i:Nat) (tm:List AV) (K:AH) (Z:Option (bk × St)),EvC aa C0 W0 plN SK (tm,K)=Z->ss.length - i=d->i<=ss.length->(tm.length=28/\an G K/\tm.getD 0 uA=vs/\tm.getD 4 uA=I ((i:Nat):Int)/\∃ v,tm.getD 3 uA=v/\Own G.length K 2 107 v (plR ((places (qS ss)).take (off (qS ss) (i)))).flatten) ->
   ∃ X K1,Z=some (.exit 0,(X,K1))/\(X.length=28/\an G K1/\X.getD 0 uA=vs/\X.getD 4 uA=I ((ss.length:Nat):Int)/\∃ v,X.getD 3 uA=v/\Own G.length K1 2 107 v (plR ((places (qS ss)).take (off (qS ss) (ss.length)))).flatten):=by
 have hls:=hs.len;have hsn:=hs.n;intro d;induction d with
 | zero =>
   intro i tm K Z hZ hd hi hI;subst hZ;have hil:i=ss.length:=by omega
   subst hil;obtain ⟨hlen,hA,h0,h4,v,h3,ho⟩:=hI;have hlt:ltB ((ss.length:Nat):Int) (ss.length:Nat)=false:=cw (by omega);rw [Nn];simp -implicitDefEqProofs only [DA,f51,aP,hlen,h0,h3,h4,hls,hlt,↓zzC,zzE,sevalprocAttr];exact ⟨_,K,rfl,by simp only [ls,hlen],hA,Aj2 (by simp only [hlen,h0,h4,gB,and_self,sevalprocAttr]) ⟨v,by simp only [hlen,h3,gB,sevalprocAttr],ho⟩⟩
 | succ d ih =>
   intro i tm K Z hZ hd hi hI;subst hZ;have hil:i < ss.length:=by omega
   obtain ⟨hlen,hA,h0,h4,v,h3,ho⟩:=hI;have hlt:ltB (i:Int) (ss.length:Nat)=true:=cu (by omega);have hw:=b6 (j:=i) (by omega);have hxn:(aM ss i).length < 2 ^ 60:=by have h1:=Qu.yg (S:=qS ss) (s:=i+1) (t:=ss.length) hil;rw [Be,Qu.lA (by rw [se]; exact hil),wN,ao] at h1; omega
   rw [Nn];simp -implicitDefEqProofs only [DA,f51,aP,hlen,h0,h3,h4,hls,hlt,↓zzC,zzE,sevalprocAttr];generalize hX:EvC aa C0 W0 plN (Code.loop _) _=Z;obtain ⟨X,K1,he,x0,xA,x1,x4,x5,v1,x3,xo⟩:=YR hs hfew hil hxn _ 0 _ _ _ hX rfl (aV _) ⟨by simp only [ls,hlen],hA,Aj2 (by simp only [hlen,h0,h4,gB,and_self,sevalprocAttr]) ⟨by simp only [hlen,gB,sevalprocAttr]; try rfl,v,by simp only [hlen,h3,gB,sevalprocAttr],ho⟩⟩;subst he;have hoff:off (qS ss) i+(aM ss i).length=off (qS ss) (i+1):=by rw [Qu.lA (by rw [se]; exact hil),wN,ao]
   rw [hoff] at xo;simp -implicitDefEqProofs only [DA,f51,aP,x0,x1,x4,x5,x3,hw,↓zzC,zzE,sevalprocAttr];generalize hY:EvC aa C0 W0 plN _ _=Z;exact ih (i+1) _ _ _ hY (by omega) (by omega) ⟨by simp only [ls,x0],xA,Aj2 (by simp only [x0,x1,gB,and_self,sevalprocAttr]) ⟨v1,by simp only [x0,x3,gB,sevalprocAttr],xo⟩⟩
theorem aae {G:AH} {ss:List (List Itm)} {vs:AV} (hs:cT G ss vs) (hfew:ss.flatten.length<=1000):∃ v K,Ev aa C0 W0 51 [vs] G=some (v,K)/\an G K/\Own G.length K 2 107 v (plR (places (qS ss))).flatten:=by obtain ⟨tm,ht,g0,g1⟩:=tm1 vs 28 (by decide);rw [ac4,ht];simp -implicitDefEqProofs only [c51,f51,aP,g0,g1,↓zzC,zzE,sevalprocAttr];generalize hX:EvC aa C0 W0 plN (Code.loop _) _=Z;obtain ⟨X,K1,he,x0,xA,x1,x4,v,x3,xo⟩:=VH hs hfew _ 0 _ _ _ hX rfl (aV _) ⟨by simp only [ls,g0],an.refl G,by simp only [g0,g1,gB,sevalprocAttr],by simp only [g0,gB,sevalprocAttr]; try rfl,.nilSlice,by simp only [g0,gB,sevalprocAttr],by rw [show off (qS ss) 0=0 from rfl]; exact .nil⟩;subst he;rw [bt (by rw [Qu.oO,Be,gM,ao]; exact aw _)] at xo;refine ⟨v,K1,?_,xA,xo⟩;simp -implicitDefEqProofs only [aP,x0,x1,x3,↓zzA,zzB,sevalprocAttr]
end Go.Dv
namespace Go.Dv
open Go.Proofs
attribute [local congr] aA bC aT bB bD
theorem L6 (i k es len cap:Nat) (ex:Bool) (kk:IntKind) (n:Int):aC aa 101 (.slice i k es len cap ex) (.int kk n)=if 0<=n/\n < len/\1=es then some (.ptr i (k+n.toNat * es)) else none:=by kernel_rfl
theorem Ys (H:AH) (i k es len cap:Nat) (ex:Bool):d4 aa 101 H (.slice i k es len cap ex)=some (.int .i64 len):=by kernel_rfl
theorem VC (H:AH):d4 aa 101 H .nilSlice=some (.int .i64 0):=by kernel_rfl
theorem LZ:IxT 101 1:=⟨VC,Ys,L6⟩
theorem abn:pC aa 101 (some 101) 3 1:=⟨by kernel_rfl,⟨I 0,by kernel_rfl,by kernel_rfl,by simp [AV.cells]⟩,by kernel_rfl,by kernel_rfl⟩
theorem nu (H:AH) (i k:Nat):ldA aa 101 H i k=(ak H i k 1).bind (·.head?):=by kernel_rfl
theorem R4 (H:AH) (i k:Nat) (x:AV):stA aa 101 H i k x=if x.cells.length=1 then bj H i k x.cells else none:=by kernel_rfl
theorem WA (s:Option Nat) (a:Int) (H:AH):bn aa s 101 1 [(0,I a)] H=(put s H (.cells [I a] 3)).map fun p=>(.slice p.1 0 1 1 1 true,p.2):=by kernel_rfl
theorem JH (H:AH) {i k l c n:Nat} {e:Bool} (h:n<=c):ko aa 101 H (.slice i k 1 l c e) none (some (I n)) none=some (.slice i k 1 n c e):=by
 have hu:aa.underlying 101=some (.slice 3):=by kernel_rfl
 have h9:aa.cellsOf 3=1:=by kernel_rfl
 have hin:aa.info? 3=some ((aa.info? 3).getD default):=by kernel_rfl
 unfold ko;rw [hu];simp only [iu,Int.natCast_nonneg,if_true,cN];rw [if_pos ⟨aV _,h,h9⟩,hin];simp only [cH,Nat.zero_mul,Nat.add_zero,Nat.sub_zero]
theorem fU {P:Program} {C:Cfg P} {slot:Option Nat} {ev:Operand->Option AV} {H:AH} (o:Oper) (r:Operand) (name:String) (xs:Array Operand) (ats:Array TypeId):gk P C slot ev o ⟨.invoke r name,xs,ats⟩ H=(ev r).bind fun rv=>(evL ev xs.toList).bind fun ys =>
   match rv with
   | .iface t v=>(vT P C t v name H).bind fun m=>(P.funcs[m.1]?).bind fun fn=>if fn.body.isSome then some (.enter m.1 (m.2::ys),H) else none
   | _=>none:=rfl
theorem u3:aa.underlying 3=some (.int .i64):=by kernel_rfl
theorem BO {C:Cfg aa} (slot:Option Nat) (ev:Operand->Option AV) (dst:Option Tmp) (ty:TypeId) (pos:String) (after:Array Edge) (g:Option (Nat × Bool)) (H:AH) (x:Operand):aop aa C slot ev ⟨dst,.makeInterface 3 x,ty,pos,after,g⟩ H=(ev x).bind fun v=>some (.val (.iface 3 v),H):=by unfold aop;simp only [u3]
theorem vF {C:Cfg aa} (slot:Option Nat) (ev:Operand->Option AV) (dst:Option Tmp) (ty:TypeId) (pos:String) (after:Array Edge) (g:Option (Nat × Bool)) (H:AH) (x:Operand):aop aa C slot ev ⟨dst,.makeInterface 100 x,ty,pos,after,g⟩ H=(ev x).bind fun v=>some (.val (.iface 100 v),H):=by
 have h:aa.underlying 100=some (.pointer 101):=by kernel_rfl
 unfold aop;simp only [h]
def ta:AV->Option Int
 | .iface t (.int k n)=>if t=3/\k=.i64 then some n else none
 | _=>none
theorem XK (n:Int):ta (.iface 3 (I n))=some n:=rfl
theorem Uu {v:AV} {n:Int} (h:ta v=some n):v=.iface 3 (I n):=by
 unfold ta at h;split at h
 · split at h
   · rename_i c; obtain ⟨rfl,rfl⟩:=c; cases h; rfl
   · cases h
 · cases h
theorem OD {C:Cfg aa} (slot:Option Nat) (ev:Operand->Option AV) (dst:Option Tmp) (ty:TypeId) (pos:String) (after:Array Edge) (g:Option (Nat × Bool)) (H:AH) (x:Operand) :
   aop aa C slot ev ⟨dst,.typeAssert x 20 3 false,ty,pos,after,g⟩ H=(ev x).bind fun xv=>match ta xv with
     | some n=>some (.val (I n),H)
     | none=>(dq aa ev ⟨dst,.typeAssert x 20 3 false,ty,pos,after,g⟩).map fun n=>(n,H):=by
 have hd:aop aa C slot ev ⟨dst,.typeAssert x 20 3 false,ty,pos,after,g⟩ H=(dq aa ev ⟨dst,.typeAssert x 20 3 false,ty,pos,after,g⟩).map fun n=>(n,H):=rfl
 rw [hd]
 cases hx:ev x with
 | none=>rw [jm (x:=x) (by simp [Op.operands]) hx]; rfl
 | some xv =>
   simp only [ax]
   cases ht:ta xv with
   | none=>rfl
   | some n =>
     have:=Uu ht
     subst this
     have hp:dq aa ev ⟨dst,.typeAssert x 20 3 false,ty,pos,after,g⟩=some (.val (I n)):=by
       simp [dq,notSelect,Op.operands,hx,toV,execOp,kr,gC,Instr.typeAssert,underlying,program,u3,nr,bind,Sem.bind,pure]
     rw [hp]; rfl
structure HpR (K:AH) (hb:Nat) (v:AV) (T:List Nat):Prop where
 cell:K[hb]? =some (.cells [v] 101)
 own:Own 0 K 1 3 v (iv1 T)
 ne:cF v≠some hb
def Fr (hb:Nat) (v v':AV) (K K':AH):Prop:=K.length<=K'.length/\(∀ c,c < K.length->c≠hb->cF v≠some c->K'[c]? =K[c]?)/\∀ i,cF v'=some i->cF v=some i∨K.length<=i
theorem Fr.trans {hb:Nat} {v v' v2:AV} {K K' K2:AH} (h:Fr hb v v' K K') (k:Fr hb v' v2 K' K2):Fr hb v v2 K K2:=
 ⟨bh h.1 k.1,fun c hc h1 h2=>by
   rw [k.2.1 c (Nat.lt_of_lt_of_le hc h.1) h1 fun e=>by
     rcases h.2.2 c e with e2 | e2
     · exact h2 e2
     · omega]
   exact h.2.1 c hc h1 h2,fun i hi=>by
   rcases k.2.2 i hi with e | e
   · exact h.2.2 i e
   · exact .inr (bh h.1 e)⟩
theorem HpR.sl {K:AH} {hb:Nat} {v:AV} {T:List Nat} (h:HpR K hb v T):SlS 101 1 K v (ints T):=Own.mJ LZ (by decide) (by rw [mu]; exact h.own) (ot T)
theorem HpR.rd {K:AH} {hb:Nat} {v:AV} {T:List Nat} (h:HpR K hb v T):ak K hb 0 1=some [v]:=by unfold ak; rw [h.cell]; rfl
theorem HpR.rdL {K:AH} {hb:Nat} {v:AV} {T:List Nat} (h:HpR K hb v T) (L:AH):ak (K++L) hb 0 1=some [v]:=(an.app K L).sub.rd h.rd
theorem yh {K:AH} {v:AV} {T:List Nat} (hs:SlS 101 1 K v (ints T)) {j:Nat} (hj:j < T.length):∃ i k,(∀ kk,aC aa 101 v (.int kk (j:Int))=some (.ptr i k))/\ak K i k 1=some [I ((T.getD j 0:Nat):Int)]:=
 hs.ix j [I ((T.getD j 0:Nat):Int)] (by
   unfold ints
   rw [List.getElem?_map,List.getElem?_eq_getElem hj,d6 hj]; rfl)
theorem F3 {K:AH} {v:AV} {T:List Nat} (hs:SlS 101 1 K v (ints T)) (G:AH):d4 aa 101 G v=some (I (T.length:Nat)):=by have:=hs.len G;rwa [show (ints T).length=T.length from by simp [ints]] at this
theorem V0 {H:AH} {v:AV} {T:List Nat} (hs:SlS 101 1 H v (ints T)):Ev aa C0 W0 49 [v] H=some (I (T.length:Nat),H):=by obtain ⟨tm,ht,g0,g1⟩:=tm1 v 5 (by decide);rw [ac6,ht];rw [<-af (ro H)];have hl:=F3 hs;simp -implicitDefEqProofs only [c49,f49,aP,g0,g1,hl,↓zzC,zzE,sevalprocAttr]
theorem C1 {H:AH} {v:AV} {T:List Nat} (hs:SlS 101 1 H v (ints T)) {i j:Nat} (hi:i < T.length) (hj:j < T.length):Ev aa C0 W0 350 [v,I (i:Nat),I (j:Nat)] H=some (.bool (ltB (T.getD i 0:Nat) (T.getD j 0:Nat)),H):=by obtain ⟨tm,ht,g0,g1,g2,g3⟩:=tm3 v (I (i:Nat)) (I (j:Nat)) 16 (by decide);rw [Za,ht];rw [<-af (ro H)];obtain ⟨i0,k0,a1,b1⟩:=yh hs.ro hi;obtain ⟨i1,k1,a2,b2⟩:=yh hs.ro hj;have b1:=fun L=>(an.app (ro H) L).sub.rd b1;have b2:=fun L=>(an.app (ro H) L).sub.rd b2;simp -implicitDefEqProofs only [aaI,Tryz.f350,aP,g0,g1,g2,g3,KL,a1,a2,b1,b2,↓zzC,zzE,sevalprocAttr]
def sQ (T:List Nat) (i j:Nat):List Nat:=(T.set i (T.getD j 0)).set j (T.getD i 0)
theorem mq (T:List Nat) (i j:Nat):(sQ T i j).length=T.length:=by unfold sQ; simp
theorem mE {T:List Nat} {i j:Nat} (hi:i < T.length) (hj:j < T.length):(sQ T i j).Perm T:=by have h:=Array.swap_perm (xs:=T.toArray) (i:=i) (j:=j) (by simpa using hi) (by simpa using hj);have h2:=Array.perm_iff_toList_perm.1 h;rw [Array.toList_swap] at h2;unfold sQ;rw [d6 hi,d6 hj];simpa using h2
theorem Bk (T:List Nat) (i x:Nat):iv1 (T.set i x)=(iv1 T).set i (I (x:Int)):=by unfold iv1; rw [List.map_set]
theorem CZ {b:Nat} {K:AH} {v:AV} {T:List Nat} (ho:Own b K 1 3 v (iv1 T)) {i j:Nat} (hi:i < T.length) (hj:j < T.length):∃ K',Ev aa C0 W0 353 [v,I (i:Nat),I (j:Nat)] K=some (.tuple [],K')/\Own b K' 1 3 v (iv1 (sQ T i j))/\K'.length=K.length/\∀ c,cF v≠some c->K'[c]? =K[c]?:=by
 obtain ⟨tm,ht,g0,g1,g2,g3⟩:=tm3 v (I (i:Nat)) (I (j:Nat)) 20 (by decide);rw [Y7,ht];have hs:SlS 101 1 K v (ints T):=Own.mJ LZ (by decide) (by rw [mu]; exact ho) (ot T);obtain ⟨i0,k0,a1,b1⟩:=yh hs hi;obtain ⟨i1,k1,a2,b2⟩:=yh hs hj;obtain ⟨q,k,len,cap,ex,K1,hv,w1,o1,l1,f1⟩:=ho.AK (o:=i) (new:=[I ((T.getD j 0:Nat):Int)]) (by rw [iY]; simp; omega) (by simp) rfl;obtain ⟨q',k',len',cap',ex',K2,hv',w2,o2,l2,f2⟩:=o1.AK (o:=j) (new:=[I ((T.getD i 0:Nat):Int)]) (by rw [gr,iY]; simp; omega) (by simp) rfl;rw [hv] at hv';cases hv';have hlen:=ho.length;rw [hv,cp,iY] at hlen;have a1':∀ kk,aC aa 101 v (.int kk (i:Int))=some (.ptr q (k+i)):=fun kk=>by rw [hv,L6,if_pos ⟨by omega,by omega,rfl⟩,cN,dM]
 have a2':∀ kk,aC aa 101 v (.int kk (j:Int))=some (.ptr q (k+j)):=fun kk=>by rw [hv,L6,if_pos ⟨by omega,by omega,rfl⟩,cN,dM]
 have e1:=(a1 .i64).symm.trans (a1' .i64);have e2:=(a2 .i64).symm.trans (a2' .i64);cases e1;cases e2;have w1:=w1 [];have w2:=w2 [];rw [af,af] at w1 w2;simp -implicitDefEqProofs only [aaF,Tryz.f353,aP,g0,g1,g2,g3,↓cD KG,EK,dn,cj,cW,dz,bZ,dm,cQ,cG,a1',a2',b1,b2,w1,w2,st3,↓dW,↓dS,↓gK,↓eP,↓dU,↓eR,↓da,↓dX,↓bP,↓bz,↓cg,↓eT,↓de,↓dY,↓bR,↓bQ,↓ch,↓dJ,↓cJ,dg,bH,ai,bN,cd,cI,dh,↓zzC,zzE,sevalprocAttr];refine ⟨K2,rfl,?_,by rw [l2,l1],fun c hc=>?_⟩
 · have e:iv1 (sQ T i j)=spl (spl (iv1 T) i [I ((T.getD j 0:Nat):Int)]) j [I ((T.getD i 0:Nat):Int)]:=by
     unfold sQ
     rw [Bk,Bk]; rfl
   rw [e]; exact o2
 · rw [f2 c fun e=>hc (by rw [hv,e]; rfl),f1 c fun e=>hc (by rw [hv,e]; rfl)]
theorem DO {sT elem:TypeId} {xT:Option TypeId} {es B:Nat} (T:pC aa sT xT elem es) (hes:0 < es) {b:Nat} {K:AH} (hB:K.length=B) (hbB:b<=B) {v:AV} {xs:List AV} (h:Own b K es elem v xs) {new:List AV} (hn:new.length=es) (hone:new.all AV.one=true) (hg:gf (aa.bytesOf elem) (bL v+1)=true)
   (s q:Nat) (L:AH) (hs:L[s]? =some .fresh) (hq:L[q]? =some (.cells new elem)) :
   ∃ v' K',fV aa (some (B+s)) sT xT v (.slice (B+q) 0 es 1 1 true) (K++L)=some (v',K')/\Own b K' es elem v' (xs++new)/\K'.length=K.length+L.length/\(∀ c,c < K.length->cF v≠some c->K'[c]? =K[c]?)/\∀ i,cF v'=some i->cF v=some i∨i=B+s:=by
 obtain ⟨z,hz,hzl,hzn⟩:=T.z;have hgq:(K++L)[B+q]? =some (.cells new elem):=by rw [al (by omega),<-hB,Nat.add_sub_cancel_left]; exact hq
 have hrd:ak (K++L) (B+q) 0 (1 * es)=some new:=Ex.rd hgq (by omega);unfold fV;rw [if_neg (by rw [T.x]; simp),T.el,ax,hz,ax,T.sz];simp only [pL,if_true,ax,aw,hrd];rw [if_pos ⟨by rw [hzl,T.sz],hzn⟩];have hsl:=aI hs;have hput:∀ (K1:AH) o,K1.length=B->put (some (B+s)) (K1++L) o=some (B+s,K1++L.set s o):=fun K1 o hl=>by unfold put;simp only;rw [al (by omega),show B+s - K1.length=s by omega,hs];simp only;rw [List.set_append_right _ _ (by omega),show B+s - K1.length=s by omega]
 have hnew:∀ (K1:AH) (m:Nat) (ys:List AV),K1.length=B->ys.length=m * es->Own b (K1++L.set s (.cells ys elem)) es elem (.slice (B+s) 0 es m m false) ys:=fun K1 m ys hl hm=>by
   have hg:(K1++L.set s (.cells ys elem))[B+s]? =some (.cells ys elem):=by rw [al (by omega),show B+s - K1.length=s by omega,bG hsl]
   exact .at (B+s) 0 m m false ys ys (by omega) hg (aw _) (by omega) (Ex.rd hg hm)
 cases h with
 | nil =>simp only [Nat.one_ne_zero,if_false,oW,Nat.zero_add] at hg ⊢;rw [if_pos hg,hput K _ hB];exact ⟨_,_,rfl,hnew K 1 new hB (by omega),by simp,fun c hc _=>ar hc,fun i hi=>by cases hi; exact .inr rfl⟩
 | «at» i k len cap ex cs xs hbi hi hl hc hx =>
   have hiK:=aI hi;simp only [cp] at hg ⊢;rw [if_pos trivial,if_neg (by omega)];have hxl:=pR hx;have hold:xs=(cs.drop k).take (len * es)/\k+len * es<=cs.length:=by
     simp only [ak,hi] at hx;split at hx
     · rename_i hle; cases hx; exact ⟨rfl,hle⟩
     · cases hx
   have hrk:ak (K++L) i k (len * es)=some xs:=(an.app K L).sub.rd hx;have hsz:(xs++new).length=(len+1) * es:=by rw [ai,hxl,hn,eE,jG]
   by_cases hroom:len+1<=cap
   · rw [if_pos hroom,if_pos hone];have hmul:(len+1) * es<=cap * es:=Nat.mul_le_mul_right _ hroom;rw [eE,jG] at hmul;have hfit:k+len * es+new.length<=cs.length:=by omega
     rw [iF hi hfit hone L];refine ⟨_,_,rfl,.at i k (len+1) cap ex (spl cs (k+len * es) new) (xs++new) hbi (by rw [ar (by rw [aq]; exact hiK),bG hiK]) hroom (by rw [gr]; exact hc) ?_,by rw [ai,aq],fun c hcl hne=>?_,fun j hj=>by cases hj; exact .inl rfl⟩
     · simp only [ak];rw [ar (by rw [aq]; exact hiK),bG hiK];simp only;rw [if_pos (by rw [gr,eE,jG]; omega),iG cs new _ hfit,hold.1];congr 1;rw [aD,List.drop_append_of_le_length (by simp; omega),List.drop_take];have e:k+len * es - k=len * es:=by omega
       rw [e,<-aD,List.take_append_of_le_length (by rw [ai,dR,Jj,hn,eE,jG]; omega)];apply bt;rw [ai,dR,Jj,hn,eE,jG]; omega
     · rw [ar (by rw [aq]; exact hcl),ay fun e=>hne (by rw [<-e]; rfl)]
   · rw [if_neg hroom];cases ex with
     | true =>rw [if_pos rfl,if_pos hg,hrk,ax,hput K _ hB];exact ⟨_,_,rfl,hnew K _ _ hB hsz,by simp,fun c hc _=>ar hc,fun j hj=>by cases hj; exact .inr rfl⟩
     | false =>rw [if_neg (by simp),ar hiK,hi];simp only;rw [if_pos ⟨trivial,hone,hg⟩,hrk,ax,List.set_append_left _ _ hiK,hput _ _ (by rw [aq]; exact hB)];exact ⟨_,_,rfl,hnew _ _ _ (by rw [aq]; exact hB) hsz,by rw [ai,aq,aq],fun c hc hne=>by rw [ar (by rw [aq]; exact hc),ay fun e=>hne (by rw [<-e]; rfl)],fun j hj=>by cases hj; exact .inr rfl⟩
theorem aaj {K:AH} {hb:Nat} {v:AV} {T:List Nat} {x:Nat} (h:HpR K hb v (T++[x])) (hN:T.length < 2 ^ 50):∃ v' K',Ev aa C0 W0 351 [.ptr hb 0] K=some (.iface 3 (I (x:Nat)),K')/\HpR K' hb v' T/\Fr hb v v' K K':=by
 obtain ⟨tm,ht,g0,g1⟩:=tm1 (.ptr hb 0) 27 (by decide);rw [Y9,ht];have hrd:=h.rd;have hln:=F3 h.sl;obtain ⟨i0,k0,a1,b1⟩:=yh h.sl (j:=T.length) (by simp);have hx:(T++[x]).getD T.length 0=x:=by simp [gde]
 rw [hx] at b1;rw [ai,eM] at hln;have hdec:IntKind.i64.wrap (((T.length+1:Nat):Int) - 1)=(T.length:Int):=by rw [show (((T.length+1:Nat):Int) - 1)=(T.length:Int) by omega]; exact IntWalk.i64_in _ (by omega)
 obtain ⟨i,k,len,cap,ex,hv,hcap⟩:=h.own.shN (by simp [iv1]);have hol:=h.own.length;rw [hv,cp,iY,ai,eM] at hol;have hsl:=fun H=>JH H (i:=i) (k:=k) (l:=len) (c:=cap) (n:=T.length) (e:=ex) (by omega);rw [<-hv] at hsl;have hbl:=aI h.cell;have hwr:bj K hb 0 [.slice i k 1 T.length cap ex]=some (K.set hb (.cells [.slice i k 1 T.length cap ex] 101)):=by have:=iF h.cell (k:=0) (xs:=[.slice i k 1 T.length cap ex]) (by simp) rfl [];rw [af,af] at this;rw [this]; rfl
 simp -implicitDefEqProofs only [aaH,Tryz.f351,aP,g0,g1,KK,↓cD KJ,EM,dn,cj,cW,dz,bZ,dm,cQ,cG,hrd,hln,hdec,a1,b1,hsl,hwr,nu,R4,↓BO,show ofV 6 Value.nilIface=some .nilIface from rfl,↓dW,↓dS,↓gK,↓eP,↓dU,↓eR,↓da,↓dX,↓bP,↓bz,↓cg,↓eT,↓de,↓dY,↓bR,↓bQ,↓ch,↓dJ,↓cJ,dg,bH,ai,bN,cd,cI,dh,↓zzC,zzE,sevalprocAttr];have hne:i≠hb:=fun e=>h.ne (by rw [hv,e]; rfl);refine ⟨.slice i k 1 T.length cap ex,_,rfl,⟨bG hbl,?_,fun e=>by cases e; exact hne rfl⟩,by rw [aq]; exact aw _,fun c _ hc _=>ay (Ne.symm hc),fun j hj=>by cases hj; exact .inl (by rw [hv]; rfl)⟩;have ho:=h.own;rw [hv] at ho;have:=ho.shorter (m:=T.length) (by omega);rw [dM,tA,List.take_left' (iY T)] at this;cases this with
 | «at» i k len cap ex cs xs hbi hi hl hc hx=>exact .at i k _ cap ex cs _ hbi (by rw [ay (Ne.symm hne)]; exact hi) hl hc (by unfold ak; rw [ay (Ne.symm hne)]; exact hx)
theorem aai {K:AH} {hb:Nat} {v:AV} {T:List Nat} (h:HpR K hb v T) (hN:T.length<=1000) (x:Nat):∃ v' K',Ev aa C0 W0 352 [.ptr hb 0,.iface 3 (I (x:Nat))] K=some (.tuple [],K')/\HpR K' hb v' (T++[x])/\Fr hb v v' K K':=by
 obtain ⟨tm,ht,g0,g1,g2⟩:=tm2 (.ptr hb 0) (.iface 3 (I (x:Nat))) 13 (by decide);rw [Y8,ht];have hrd:=fun L=>h.rdL L;have hbl:=aI h.cell;have hol:=h.own.length;rw [iY,dM] at hol;obtain ⟨v',K',happ,ho',hl',hfr,hbk⟩:=DO abn (by decide) rfl (aV _) h.own (new:=[I (x:Nat)]) rfl rfl (gY b3' (by omega)) 7 6 [.fresh,.fresh,.fresh,.fresh,.fresh,.fresh,.cells [I (x:Nat)] 3,.fresh,.fresh,.fresh] rfl rfl;have hc':K'[hb]? =some (.cells [v] 101):=by rw [hfr hb hbl h.ne]; exact h.cell
 have hvo:=ho'.cells;have hwr:bj K' hb 0 [v']=some (K'.set hb (.cells [v'] 101)):=by have:=iF hc' (k:=0) (xs:=[v']) (by simp) (by simp [hvo.2]) [];rw [af,af] at this;rw [this]; rfl
 have hv1:=hvo.1;simp -implicitDefEqProofs only [aaG,Tryz.f352,aP,g0,g1,g2,↓cD KH,EL,dn,cj,cW,dz,bZ,dm,cQ,cG,hrd,WA,happ,hwr,↓hv1,↓OD,XK,nu,R4,↓dW,↓dS,↓gK,↓eP,↓dU,↓eR,↓da,↓dX,↓bP,↓bz,↓cg,↓eT,↓de,↓dY,↓bR,↓bQ,↓ch,↓dJ,↓cJ,dg,bH,ai,bN,cd,cI,dh,↓zzC,zzE,sevalprocAttr];have hbv:cF v'≠some hb:=fun e=>by
   rcases hbk hb e with e2 | e2
   · exact h.ne e2
   · omega
 have hbl':=aI hc';refine ⟨v',_,rfl,⟨bG hbl',?_,hbv⟩,?_,fun c hc h1 h2=>?_,fun i hi=>?_⟩
 · rw [tA];exact ho'.other fun i k e len cap ex hv=>ay fun e2=>hbv (by rw [hv,e2]; rfl)
 · rw [aq,hl']; omega
 · rw [ay (Ne.symm h1),hfr c hc h2]
 · rcases hbk i hi with e | e
   · exact .inl e
   · exact .inr (by omega)
end Go.Dv
