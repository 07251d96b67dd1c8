/- Part 19 of the walks (own work). -/
import Derived.Test.YtilpjnckfkjkbaaGreatDoorU18
open Bool renaming and_eq_true→az,false_and→bd,not_eq_true'→bl,true_and→bf
open List renaming append_assoc→aD,append_nil→af,getElem?_append_left→ar,getElem?_eq_getElem→aj,getElem?_map→aO,getElem?_set_ne→ay,getElem?_set_self→bG,getElem_mem→gQ,length→ew,length_append→ai,length_map→ao,length_set→aq,length_take→dR,map_append→dE,mem_append→cA,mem_singleton→bJ,set_append_left→gn,take_add_one→ez
open Nat renaming add_comm→WV,le_add_right→dI,le_of_lt→wz,le_refl→aw,le_trans→bh,lt_add_right→OY,lt_of_lt_of_le→bF,lt_succ_of_lt→Jh,min_eq_left→r7,reduceLT→aR
open Option renaming bind_eq_some_iff→ae,map_eq_some_iff→ah
open Go.Proofs.Tryz renaming prog→aa
set_option maxRecDepth 100000
set_option maxHeartbeats 4000000
set_option linter.unusedSimpArgs false
set_option linter.unusedVariables false
open Go.Proofs.Tryz (f10 f86)
namespace Go.Dv
open Go.Proofs
attribute [local congr] aA bC aT bB bD
def cF:AV->Option Nat
 | .slice i _ _ _ _ _=>some i
 | _=>none
def bU (v:AV) (K:AH):AH:=match v with
 | .slice i _ _ _ _ _=>K.set i .dead
 | _=>K
theorem dQ (v:AV) (K:AH):(bU v K).length=K.length:=by unfold bU; split <;> simp
theorem dD {v:AV} {K:AH} {i:Nat} (h:cF v≠some i):(bU v K)[i]? =K[i]?:=by
 unfold bU;split
 · rename_i b _ _ _ _ _;rw [ay fun e=>h (by rw [<-e]; rfl)]
 · rfl
theorem mU {v:AV} {K:AH} {i:Nat} (h:cF v=some i):lL (bU v K) i:=by
 cases v <;> simp only [cF] at h <;> first | (cases h; done) | skip
 cases h;exact ve K i
theorem z6 (v:AV) (K:AH):Sub (bU v K) K:=by
 unfold bU;split
 · exact Sub.kill K _
 · exact Sub.refl K
theorem z7 {v:AV} {K:AH} (L:AH) (h:∀ i,cF v=some i->i < K.length):bU v (K++L)=bU v K++L:=by
 unfold bU;split
 · rw [gn _ _ (h _ rfl)]
 · rfl
theorem Fv {sT:TypeId} {xT:Option TypeId} {v x v':AV} {K K':AH} (he:fV aa none sT xT v x K=some (v',K')):∀ i,cF v'=some i->cF v=some i∨K.length<=i:=by
 unfold fV at he;split at he
 · cases he
 simp only [ae] at he;obtain ⟨elem,_,z,_,⟨n,f⟩,_,new,_,he⟩:=he;split at he
 · split at he
   · split at he
     · cases he; intro i h; cases h
     · split at he
       · obtain ⟨⟨i,H'⟩,hp,he⟩:=ah.1 he;cases hp; cases he;intro i h; cases h; exact .inr (aw _)
       · cases he
   · rename_i i k es len cap ex;split at he
     · split at he
       · cases he; intro i h; exact .inl h
       · split at he
         · split at he
           · obtain ⟨H',hp,he⟩:=ah.1 he;cases he;intro i h; cases h; exact .inl rfl
           · cases he
         · split at he
           · split at he
             · obtain ⟨old,_,he⟩:=ae.1 he;obtain ⟨⟨j,H'⟩,hp,he⟩:=ah.1 he;cases hp; cases he;intro i h; cases h; exact .inr (aw _)
             · cases he
           · split at he
             · split at he
               · obtain ⟨old,_,he⟩:=ae.1 he;obtain ⟨⟨j,H'⟩,hp,he⟩:=ah.1 he;cases hp; cases he;intro i h; cases h; right; rw [aq]; exact aw _
               · cases he
             · cases he
     · cases he
   · cases he
 · cases he
theorem gX {b:Nat} {H:AH} {es:Nat} {elem:TypeId} {v:AV} {xs:List AV} (h:Own b H es elem v xs) {i:Nat} (hv:cF v=some i):b<=i/\i < H.length:=by
 cases h with
 | nil=>cases hv
 | «at» i2 k2 len2 cap2 ex2 cs2 xs2 hb2 hi2 hl2 hc2 h2=>cases hv; exact ⟨hb2,aI hi2⟩
theorem tZ {sT elem:TypeId} {xT:Option TypeId} {es:Nat} (T:pC aa sT xT elem es) {b:Nat} {K:AH} {v:AV} {xs:List AV} (ho:Own b K es elem v xs) (hb:b<=K.length) {x:AV} {new:List AV} (hx:Row K es x new)
   (hone:new.all AV.one=true) (hg:gf (aa.bytesOf elem) (bL v+bL x)=true) :
   ∃ v' K',fV aa none sT xT v x K=some (v',K')/\Own b K' es elem v' (xs++new)/\K.length<=K'.length/\(∀ j,j < K.length->cF v≠some j->K'[j]? =K[j]?)/\(∀ i,cF v'=some i->cF v=some i∨K.length<=i):=by obtain ⟨v',K',he,hown,hlv,hll,hsame⟩:=sF T ho hb hx hone hg;exact ⟨v',K',he,hown,hll,fun j hj hne=>hsame j hj fun i k len cap ex e h=>hne (by rw [e,h]; rfl),Fv he⟩
theorem E0 {v v':AV} {K K':AH} (hs:∀ j,j < K.length->cF v≠some j->K'[j]? =K[j]?) (hb:∀ i,cF v'=some i->cF v=some i∨K.length<=i):∀ j,j < K.length->cF v≠some j->(bU v' K')[j]? =K[j]?:=fun j hj hne=>by
 rw [dD,hs j hj hne]
 intro e
 rcases hb j e with h | h
 · exact hne h
 · omega
theorem E1 {D:List Nat} {v v':AV} {K K':AH} (hs:∀ j,j < K.length->cF v≠some j->K'[j]? =K[j]?) (hb:∀ i,cF v'=some i->cF v=some i∨K.length<=i):Sub (eA D (bU v K)) (eA D (bU v' K')):=fun i o hi ho=>by
 have hD:i∉D:=fun h=>(iK D (bU v K) i h).ne hi ho rfl
 rw [kf D _ i hD] at hi ⊢
 have hne:cF v≠some i:=fun e=>(mU (K:=K) e).ne hi ho rfl
 rw [dD hne] at hi
 rw [E0 hs hb i (aI hi) hne]; exact hi
def fC (p:Itm × AV):List AV:=aJ p.1 p.2
theorem fu (l:List (Itm × AV)):∀ r∈l.map fC,r.length=9:=by intro r hr; obtain ⟨p,_,rfl⟩:=List.mem_map.1 hr; rfl
theorem sK:d8 aa 34=some (.agg [I 0,I 0,I 0,I 0,I 0,I 0,I 0,.nilSlice,.int .i32 0]):=by kernel_rfl
theorem aa7 (cs:List AV) (hc:cs.length=9) (H:AH):bn aa none 31 1 [(0,.agg cs)] H=some (.slice H.length 0 9 1 1 true,H++[.cells cs 34]):=by
 rcases cs with _ | ⟨a,_ | ⟨b,_ | ⟨c,_ | ⟨d,_ | ⟨e,_ | ⟨f,_ | ⟨g,_ | ⟨h,_ | ⟨i,_ | ⟨j,l⟩⟩⟩⟩⟩⟩⟩⟩⟩⟩ <;> simp at hc
 kernel_rfl
theorem Wv (a b c d e f g h i:AV) (H L:AH):bn aa none 31 1 [(0,.agg [a,b,c,d,e,f,g,h,i])] (H++L)=some (.slice (H.length+L.length) 0 9 1 1 true,H++(L++[.cells [a,b,c,d,e,f,g,h,i] 34])):=by rw [aa7 _ rfl,ai,aD]
theorem QT {H K0:AH} {xs:List Itm} {w0 vs:AV} {q n i:Nat} {D:List Nat} (hH:an H K0) (hx:eD H xs w0) (hxl:xs.length<=1000) (hal:∀ x∈xs,x.args.length<=1000) (hDl:∀ d∈D,d < K0.length) (hN:xs.length < 2 ^ 60):∀ (d j:Nat) (tm:List AV) (K:AH) (Z:Option (bk × St)),EvC aa C0 W0 pU Tr (tm,K)=Z->xs.length - j=d->j<=xs.length->(tm.length=100/\tm.getD 11 uA=.ptr q 0/\tm.getD 67 uA=vs/\tm.getD 68 uA=I n/\tm.getD 69 uA=I i/\tm.getD 73 uA=w0/\tm.getD 74 uA=I xs.length/\tm.getD 75 uA=I ((j:Nat):Int)/\an K0 K/\∃ v,tm.getD 16 uA=v/\∃ pr:List (Itm × AV),pr.map (·.1)=xs.take j/\Own K0.length K 9 34 v (pr.map fC).flatten/\∀ p∈pr,SlS 32 1 (eA D (bU v K)) p.2 (p.1.args.map dH)) ->
   ∃ X K1,Z=some (.exit 4,(X,K1))/\(X.length=100/\X.getD 11 uA=.ptr q 0/\X.getD 67 uA=vs/\X.getD 68 uA=I n/\X.getD 69 uA=I i/\X.getD 73 uA=w0/\X.getD 74 uA=I xs.length/\X.getD 75 uA=I ((xs.length:Nat):Int)/\an K0 K1/\∃ v,X.getD 16 uA=v/\∃ pr:List (Itm × AV),pr.map (·.1)=xs.take xs.length/\Own K0.length K1 9 34 v (pr.map fC).flatten/\∀ p∈pr,SlS 32 1 (eA D (bU v K1)) p.2 (p.1.args.map dH)):=by
 intro d;induction d with
 | zero =>
   intro j tm K Z hZ hd hj hI;subst hZ;have hjl:j=xs.length:=by omega
   subst hjl;have hI0:=hI;obtain ⟨hlen,h11,h67,h68,h69,h73,h74,h75,hA,v,h16,pr,hpr,ho,hargs⟩:=hI;have hlt:ltB (((xs.length:Nat)):Int) (xs.length:Nat)=false:=cw (by omega);rw [N8];simp -implicitDefEqProofs only [Hn,f10,aP,hlen,h11,h67,h68,h69,h73,h74,h75,h16,hlt,↓zzA,zzB,sevalprocAttr];refine ⟨_,K,rfl,?_⟩;exact ⟨by first | exact hlen | simp only [aq,hlen],Aj7 (by simp only [hlen,h11,h67,h68,h69,h73,h74,h75,gB,and_self,sevalprocAttr]) ⟨hA,v,by simp only [hlen,h16,gB,sevalprocAttr],pr,hpr,ho,hargs⟩⟩
 | succ d ih =>
   intro j tm K Z hZ hd hj hI;subst hZ;have hI0:=hI;obtain ⟨hlen,h11,h67,h68,h69,h73,h74,h75,hA,v,h16,pr,hpr,ho,hargs⟩:=hI;have hjN:j < xs.length:=by omega
   have hlt:ltB (j:Int) (xs.length:Nat)=true:=cu (by omega);have hw:=b6 (j:=j) (by omega);obtain ⟨i1,k1,va,hix,hrd,hsa⟩:=hx.at (hH.trans hA) hjN;have hsK:=(hsa.same hH).same hA;have hac:=hsa.cells;have hao:=hsa.one;have hxm:=fA hjN;have ht:xs.take (j+1)=xs.take j++[bo xs j]:=by rw [ez,tC hjN]; rfl
   have hlar:=hal _ hxm;generalize bo xs j=x at *;have h32:=fun L=>MU hsK hlar L;have hwc:=fun b=>(eL 1 x.args.length va b).1;have hwo:=fun b=>(eL 1 x.args.length va b).2;simp only [aJ] at hrd;have hown:=Own.aZ ho (an.app K (bm.cells (aJ x (bu 1 x.args.length va (K.length+1))) 34::(bq 21 va (ju x.args)++[.cells (aJ x (bu 1 x.args.length va (K.length+1))) 34])));have hprl:pr.length=j:=by have:=congrArg ew hpr;rw [ao,dR,r7 (wz hjN)] at this; exact this
   have hlv:bL v=j:=by have:=ho.length;rw [d5 (fu pr),ao,hprl] at this;exact (Nat.eq_of_mul_eq_mul_right (by decide) this).symm
   have hone9:(aJ x (bu 1 x.args.length va (K.length+1))).all AV.one=true:=by show (AV.one _ && (AV.one _ && (AV.one _ && (AV.one _ && (AV.one _ && (AV.one _ && (AV.one _ && (AV.one _ && (AV.one _ && true)))))))))=true;rw [hwo]; rfl
   obtain ⟨v',K',happ,hown',hll,hsame,hblk⟩:=tZ Hp hown (by rw [ai]; exact bh hA.len (dI _ _)) (x:=.slice (K.length+((bq 21 va (ju x.args)).length+1)) 0 9 1 1 true) (new:=aJ x (bu 1 x.args.length va (K.length+1))) (.at _ _ _ _ _ _ (by rw [jE,WV];unfold ak;rw [WV,List.getElem?_cons_succ,List.getElem?_append_right (aw _),Nat.sub_self]; rfl)) hone9 (gY b34 (by rw [hlv,cp]; omega));have happ':=happ;simp only [aJ,ju] at happ;rw [N8];rw [<-af K];simp -implicitDefEqProofs only [Hn,f10,aP,hlen,h11,h67,h68,h69,h73,h74,h75,h16,hlt,hw,hix,hrd,sK,ed,fX,↓hac,↓hao,↓hwc,↓hwo,↓VU,h32,Wv,↓bS,happ,↓zzC,zzE,sevalprocAttr];generalize hX:EvC aa C0 W0 _ _ _=Z;refine ih (j+1) _ _ _ hX (by omega) (by omega) ?_;refine ⟨by first | exact hlen | simp only [aq,hlen],Aj7 (by simp only [hlen,h11,h67,h68,h69,h73,h74,h75,gB,and_self,sevalprocAttr]) ⟨?_,v',by simp only [hlen,h16,gB,sevalprocAttr],pr++[(x,bu 1 x.args.length va (K.length+1))],?_,?_,?_⟩⟩
   · intro b hb;rw [hsame b (by rw [ai]; exact bF hb (bh hA.len (dI _ _))) (fun e=>by have:=(gX ho e).1; omega),ar (bF hb hA.len),hA b hb]
   · rw [dE,hpr,ht]; rfl
   · rw [dE,List.flatten_append];have e:([(x,bu 1 x.args.length va (K.length+1))].map fC).flatten=aJ x (bu 1 x.args.length va (K.length+1)):=by show aJ x _++[]=_;rw [af]
     rw [e]; exact hown'
   · have hvl:∀ b,cF v=some b->b < K.length:=fun b hb=>(gX ho hb).2;have hDK:∀ d∈D,d < (bU v K).length:=fun d hd=>by rw [dQ]; exact bF (hDl d hd) hA.len
     have hS:=E1 (D:=D) hsame hblk;rw [z7 _ hvl,uZ D _ _ hDK] at hS;intro p hp;rcases cA.1 hp with h | h
     · exact ((hargs p h).app _).sub hS
     · rw [bJ] at h;subst h;refine SlS.sub ?_ hS;have hl1:(eA D (bU v K)++[bm.cells (aJ x (bu 1 x.args.length va (K.length+1))) 34]).length=K.length+1:=by rw [ai,qM,dQ]; rfl
       have hc:=kW (E:=21) (es:=1) (G:=eA D (bU v K)++[bm.cells (aJ x (bu 1 x.args.length va (K.length+1))) 34]) (v:=va) (xs:=ju x.args) (n:=x.args.length) (by decide) (by unfold ju; simp) (fun e=>by have:=mQ hsa e; unfold ju; simpa using this);rw [hl1] at hc;have:=hc.s32.app [bm.cells (aJ x (bu 1 x.args.length va (K.length+1))) 34];simpa only [aD,List.cons_append,List.nil_append] using this
def dV (v:AV) (D:List Nat):List Nat:=match cF v with
 | some b=>b::D
 | none=>D
theorem Ff {v:AV} {D:List Nat} {d:Nat}:d∈dV v D↔cF v=some d∨d∈D:=by
 unfold dV;cases cF v with
 | none=>simp
 | some b=>simp [eq_comm]
theorem Ot {v:AV} (hv:v.cells=[v]/\v.one=true) (hs:v=.nilSlice∨∃ i k es l c e,v=.slice i k es l c e) (H:AH):bn aa none 25 1 [(0,v)] H=some (.slice H.length 0 1 1 1 true,H++[.cells [v] 31]):=by rcases hs with rfl | ⟨i,k,es,l,c,e,rfl⟩ <;> kernel_rfl
theorem Own.sh {b:Nat} {H:AH} {es:Nat} {elem:TypeId} {v:AV} {xs:List AV} (h:Own b H es elem v xs):v=.nilSlice∨∃ i k es l c e,v=.slice i k es l c e:=by
 cases h with
 | nil=>exact .inl rfl
 | «at» i k len cap ex cs xs h1 hi hl hc h=>exact .inr ⟨_,_,_,_,_,_,rfl⟩
theorem Oz:pC aa 25 (some 25) 31 1:=⟨by kernel_rfl,⟨(d8 aa 31).getD uA,by kernel_rfl,by kernel_rfl,by (have h:((d8 aa 31).getD uA).cells.length=1:=by kernel_rfl); intro e; rw [e] at h; cases h⟩,by kernel_rfl,by kernel_rfl⟩
theorem b31:Nat.ble (aa.bytesOf 31) 1000=true:=by kernel_rfl
theorem HU (vc vm vs vs' va:AV) (f:Con) (rc:List Bool) (en:Int):(lP vc vm vs va f rc en).set 9 vs'=lP vc vm vs' va f rc en:=rfl
theorem nW (vc vm vs va:AV) (f:Con) {rc:List Bool} (h:rc.length=16) (en:Int):(lP vc vm vs va f rc en).length=28:=by unfold lP fx; simp [h]
def rc0:List Bool:=List.replicate 16 false
structure Fz (D:List Nat) (K5 K:AH) (q:Nat) (cv mv av:AV) (f:Con) (ss:List (List Itm)) (i:Nat):Prop where
 ag:AgX K5 K q
 ex:∃ vq,K[q]? =some (.cells (lP cv mv vq av f rc0 0) 71)/\∃ pr:List (List Itm × AV),pr.map (·.1)=ss.take i/\Own K5.length K 1 31 vq (pr.map (·.2))/\∀ p∈pr,eD (eA D (bU vq K)) p.1 p.2
theorem QS {H K5:AH} {ss:List (List Itm)} {vs cv mv av:AV} {f:Con} {q:Nat} {D:List Nat} (hH:an H K5) (hHq:H.length<=q) (hq5:q < K5.length) (hs:cT H ss vs) (hn4:ss.length<=4) (hxl:∀ xs∈ss,xs.length<=1000/\∀ x∈xs,x.args.length<=1000) (hqD:q∈D) (hDl:∀ d∈D,d < K5.length) (hN:ss.length < 2 ^ 60):∀ (d j:Nat) (tm:List AV) (K:AH) (Z:Option (bk × St)),EvC aa C0 W0 pU Tq (tm,K)=Z->ss.length - j=d->j<=ss.length->(tm.length=100/\tm.getD 11 uA=.ptr q 0/\tm.getD 67 uA=vs/\tm.getD 68 uA=I ss.length/\tm.getD 69 uA=I ((j:Nat):Int)/\Fz D K5 K q cv mv av f ss j) ->
   ∃ X K1,Z=some (.exit 2,(X,K1))/\(X.length=100/\X.getD 11 uA=.ptr q 0/\X.getD 67 uA=vs/\X.getD 68 uA=I ss.length/\X.getD 69 uA=I ((ss.length:Nat):Int)/\Fz D K5 K1 q cv mv av f ss ss.length):=by
 intro d;induction d with
 | zero =>
   intro j tm K Z hZ hd hj hI;subst hZ;have hjl:j=ss.length:=by omega
   subst hjl;have hI0:=hI;obtain ⟨hlen,h11,h67,h68,h69,hI5⟩:=hI;have hlt:ltB (((ss.length:Nat)):Int) (ss.length:Nat)=false:=cw (by omega);rw [N7];simp -implicitDefEqProofs only [Hm,f10,aP,hlen,h11,h67,h68,h69,hlt,↓zzA,zzB,sevalprocAttr];refine ⟨_,K,rfl,?_⟩;exact ⟨by first | exact hlen | simp only [aq,hlen],Aj4 (by simp only [hlen,h11,h67,h68,h69,gB,and_self,sevalprocAttr]) hI5⟩
 | succ d ih =>
   intro j tm K Z hZ hd hj hI;subst hZ;have hI0:=hI;obtain ⟨hlen,h11,h67,h68,h69,hI5⟩:=hI;have hjN:j < ss.length:=by omega
   have hlt:ltB (j:Int) (ss.length:Nat)=true:=cu (by omega);have hw:=b6 (j:=j) (by omega);obtain ⟨hX5,vq,hKq,prq,hprq,hoq,hitq⟩:=hI5;have hAH:an H K:=fun i hi=>(hX5.2 i (bF hi hH.len) (by omega)).trans (hH i hi);obtain ⟨i0,k0,w0,hix0,hrd0,hxs⟩:=hs.at hAH hjN;have hln:=hxs.len;have hsm:=hxl _ (gG hjN);have ht:ss.take (j+1)=ss.take j++[aM ss j]:=by rw [ez,mF hjN]; rfl
   have hDq:∀ d∈dV vq D,d < K.length:=fun d hd=>by
     rcases Ff.1 hd with h | h
     · exact (gX hoq h).2
     · exact bF (hDl d h) hX5.1
   generalize aM ss j=xs at *;rw [N7];rw [<-af K];simp -implicitDefEqProofs only [Hm,f10,aP,hlen,h11,h67,h68,h69,hlt,hw,hix0,hrd0,hln,↓zzC,zzE,sevalprocAttr];simp only [af];generalize hZ:EvC aa C0 W0 _ (Code.loop _) _=Z;obtain ⟨X,K1,he,xl,x11,x67,x68,x69,_,_,_,hA1,v,x16,pri,hpri,hov,hargs⟩:=QT (H:=H) (vs:=vs) (q:=q) (n:=ss.length) (i:=j) (D:=dV vq D) hAH hxs hsm.1 hsm.2 hDq (by omega) _ 0 _ _ _ hZ rfl (Nat.zero_le _) ⟨by simp only [ls,hlen],Aj6 (by simp only [hlen,h11,h67,h68,h69,gB,and_self,sevalprocAttr]) ⟨by simp only [hlen,gB,sevalprocAttr]; try rfl,an.refl K,.nilSlice,by simp only [hlen,gB,sevalprocAttr],[],rfl,.nil,by simp⟩⟩;subst he;rw [List.take_length] at hpri;have hq1:K1[q]? =some (.cells (lP cv mv vq av f rc0 0) 71):=hA1.get hKq;have hq9:ak K1 q 9 1=some [vq]:=by unfold ak;rw [hq1];simp only;rw [if_pos (by rw [nW _ _ _ _ _ rfl]; decide)]; rfl
   have hvc:=hov.cells;have hvc1:=hvc.1;have hvc2:=hvc.2;have hb25:=Ot hvc hov.sh K1;have hprl:prq.length=j:=by have:=congrArg ew hprq;rw [ao,dR,r7 (wz hjN)] at this; exact this
   have hlq:bL vq=j:=by have:=hoq.length;rw [ao,hprl,Nat.mul_one] at this; exact this.symm
   have hoq1:=(hoq.aZ hA1).aZ (an.app K1 [bm.cells [v] 31]);obtain ⟨vq',K2,happ,hown',hll,hsame,hblk⟩:=tZ Oz hoq1 (by rw [ai]; exact bh (bh hX5.1 hA1.len) (dI _ _)) (x:=.slice K1.length 0 1 1 1 true) (new:=[v]) (.at _ _ _ _ _ _ (by rw [gj]; rfl)) (by simp [hvc2]) (gY b31 (by rw [hlq,cp]; omega));have hqb:cF vq≠some q:=fun e=>by have:=(gX hoq e).1; omega
   have hq1l:=aI hq1;have hq2:K2[q]? =some (.cells (lP cv mv vq av f rc0 0) 71):=by rw [hsame q (by rw [ai]; exact OY _ hq1l) hqb,ar hq1l]; exact hq1
   have hvq':=hown'.cells;have hvq1:=hvq'.1;have hvq2:=hvq'.2;have hwr:=AL hq2 (k:=9) (x:=vq') (by rw [nW _ _ _ _ _ rfl]; decide) hvq2;rw [HU] at hwr;simp -implicitDefEqProofs only [xl,x11,x67,x68,x69,x16,hw,hq9,hb25,↓hvc1,↓hvq1,↓bS,happ,abO,hwr,↓zzC,zzE,sevalprocAttr];generalize hX':EvC aa C0 W0 _ _ _=Z;refine ih (j+1) _ _ _ hX' (by omega) (by omega) ?_;refine ⟨by first | exact xl | simp only [aq,xl],Aj4 (by simp only [xl,x11,x67,x68,x69,gB,and_self,sevalprocAttr]) (⟨⟨?_,?_⟩,vq',?_,prq++[(xs,v)],?_,?_,?_⟩)⟩
   · rw [aq]; rw [ai] at hll; exact bh (bh hX5.1 hA1.len) (bh (dI _ _) hll)
   · intro b hb hne;have hbK:b < K.length:=bF hb hX5.1;rw [ay (Ne.symm hne),hsame b (by rw [ai]; exact OY _ (bF hbK hA1.len)) (fun e=>by have:=(gX hoq e).1; omega),ar (bF hbK hA1.len),hA1 b hbK];exact hX5.2 b hb hne
   · rw [bG (aI hq2)]
   · rw [dE,hprq,ht]; rfl
   · rw [dE];exact hown'.other fun b k e l c x hv=>ay (fun h=>by have:=(gX hown' (i:=b) (by rw [hv]; rfl)).1; omega)
   · have hgv:∀ b o,b∉D->cF vq≠some b->b < K1.length+1->(K1++[bm.cells [v] 31])[b]? =some o->(eA D (bU vq' (K2.set q (.cells (lP cv mv vq' av f rc0 0) 71))))[b]? =some o:=fun b o hbD hbv hbl hbo=>by
       rw [kf D _ b hbD,dD,ay (fun e=>hbD (by rw [<-e]; exact hqD)),hsame b (by rw [ai]; exact hbl) hbv]
       · exact hbo
       · intro e
         rcases hblk b e with h | h
         · exact hbv h
         · rw [ai] at h; exact absurd hbl (Nat.not_lt.2 h)
     intro p hp
     rcases cA.1 hp with h | h
     · refine (hitq p h).sub fun b o hb ho=>?_
       have hbD:b∉D:=fun h=>(iK D (bU vq K) b h).ne hb ho rfl
       rw [kf D _ b hbD] at hb
       have hbv:cF vq≠some b:=fun e=>(mU (K:=K) e).ne hb ho rfl
       rw [dD hbv] at hb
       have hbK:=aI hb
       exact hgv b o hbD hbv (bF hbK (bh hA1.len (Nat.le_succ _))) (by rw [ar (bF hbK hA1.len)]; exact hA1.get hb)
     · rw [bJ] at h
       subst h
       obtain ⟨_,n1,n2,n3,n4⟩:=hxs
       have hov2:Own K.length (eA D (bU vq' (K2.set q (.cells (lP cv mv vq' av f rc0 0) 71)))) 9 34 v (pri.map fC).flatten:=hov.other fun b k e l c x hv=>by
         have hb:=gX hov (i:=b) (by rw [hv]; rfl)
         have hbo:=aj hb.2
         rw [hbo]
         exact hgv b _ (fun h=>by have:=hDl b h; have:=hX5.1; omega) (fun e=>by have:=(gX hoq e).2; omega) (Jh hb.2) (by rw [ar hb.2]; exact hbo)
       refine ⟨⟨pri,hpri,?_,fun p hp=>(hargs p hp).sub fun b o hb ho=>?_⟩,n1,n2,n3,n4⟩
       · exact Own.mJ mV (by decide) hov2 (fu pri)
       · have hbD:b∉dV vq D:=fun h=>(iK _ (bU v K1) b h).ne hb ho rfl
         rw [kf _ _ b hbD] at hb
         have hbv:cF v≠some b:=fun e=>(mU (K:=K1) e).ne hb ho rfl
         rw [dD hbv] at hb
         have hbl:=aI hb
         exact hgv b o (fun h=>hbD (Ff.2 (.inr h))) (fun e=>hbD (Ff.2 (.inl e))) (Jh hbl) (by rw [ar hbl]; exact hb)
theorem lkK {K:AH} {m:Nat} {l:List ByteArray} (h:K[m]? =some (.map (py l) l.length)) (s:ByteArray) (L:AH):iJ aa 172 (.map m) (.str s) false (K++L)=some (.bool (sIn l s)):=
 Sk ((an.app K L).get h) s
theorem mpK {K:AH} {m:Nat} {l:List ByteArray} (h:K[m]? =some (.map (py l) l.length)) {s:ByteArray} (hc:sIn l s=false) (L:AH):iI aa 172 (.map m) (.str s) (.bool true) (K++L)=some (K.set m (.map (py (l++[s])) (l++[s]).length)++L):=by rw [Yc ((an.app K L).get h) hc,gn _ _ (aI h)]
theorem wI {K:AH} {m:Nat} {o:bm} (h:K[m]? =some o) (x:bm) (L:AH):(K.set m x++L)[m]? =some x:=by have hl:=aI h;rw [ar (by rw [aq]; exact hl),bG hl]
def pNs (c:Cod):List ByteArray:=c.params.map (·.name)
def sNs (c:Cod):List ByteArray:=c.shared.map (·.name)
def gD (l:List ByteArray) (j:Nat):ByteArray:=l.getD j eS
def mZ (c:Cod) (j:Nat):Int:=match c.shared[j]? with
 | some a=>a.size
 | none=>0
def zy (c:Cod) (j:Nat):Bool:=lR (gD (pNs c) j) && !sIn ((pNs c).take j) (gD (pNs c) j)
def zt (c:Cod) (j:Nat):Bool:=lR (gD (sNs c) j) && !sIn (pNs c++(sNs c).take j) (gD (sNs c) j) && !ltB (mZ c j) 1 && !ltB 64 (mZ c j)
theorem qA {l:List ByteArray} {j:Nat} (h:j < l.length):l.take (j+1)=l.take j++[gD l j]:=by unfold gD;rw [ez,gde,aj h]; rfl
theorem nmP {c:Cod} {j:Nat} (h:j < c.params.length):gD (pNs c) j=(c.params[j]'h).name:=by unfold gD pNs;rw [gde,aO,aj h]; rfl
theorem nmS {c:Cod} {j:Nat} (h:j < c.shared.length):gD (sNs c) j=(c.shared[j]'h).name:=by unfold gD sNs;rw [gde,aO,aj h]; rfl
theorem szS {c:Cod} {j:Nat} (h:j < c.shared.length):mZ c j=(c.shared[j]'h).size:=by unfold mZ;rw [aj h]
theorem JI {H K:AH} {c:Cod} {vp vs vi:AV} (h:eW H c vp vs vi) (hA:an H K) {j:Nat} (hj:j < c.shared.length):∃ i k,(∀ kk,aC aa 63 vs (.int kk (j:Int))=some (.ptr i k))/\(∀ L,ak (K++L) i k 1=some [.str (gD (sNs c) j)])/\(∀ L,ak (K++L) i (k+1) 1=some [I (mZ c j)])/\(∀ L,ak (K++L) i k 2=some [.str (gD (sNs c) j),I (mZ c j)]):=by obtain ⟨i,k,hi,hr⟩:=h.s.ix j (kp (c.shared[j]'hj)) (by rw [aO,aj hj]; rfl);rw [nmS hj,szS hj];exact ⟨i,k,hi,fun L=>xL hr hA L rfl,fun L=>B5 hr hA L 1 rfl,fun L=>iH hr hA L⟩
theorem Ku {H K:AH} {c:Cod} {vp vs vi:AV} (h:eW H c vp vs vi) (hA:an H K) {j:Nat} (hj:j < c.params.length):∃ i k b,(∀ kk,aC aa 62 vp (.int kk (j:Int))=some (.ptr i k))/\(∀ L,ak (K++L) i k 1=some [.str (gD (pNs c) j)])/\(∀ L,ak (K++L) i k 2=some [.str (gD (pNs c) j),.bool b]):=by obtain ⟨i,k,hi,hr⟩:=h.p.ix j (jl (c.params[j]'hj)) (by rw [aO,aj hj]; rfl);rw [nmP hj];exact ⟨i,k,_,hi,fun L=>xL hr hA L rfl,fun L=>iH hr hA L⟩
theorem Vk {H:AH} {c:Cod} {vp vs vi:AV} (h:eW H c vp vs vi) {j:Nat} (hj:j < c.params.length):(gD (pNs c) j).size < 2 ^ 60:=by rw [nmP hj]; exact h.pn _ (gQ _)
theorem Vj {H:AH} {c:Cod} {vp vs vi:AV} (h:eW H c vp vs vi) {j:Nat} (hj:j < c.shared.length):(gD (sNs c) j).size < 2 ^ 60:=by rw [nmS hj]; exact h.sn _ (gQ _)
theorem k8 (c:Cod):(pNs c).length=c.params.length:=by unfold pNs; rw [ao]
theorem sZ (c:Cod):(sNs c).length=c.shared.length:=by unfold sNs; rw [ao]
theorem Q9 {G:AH} {c:Cod} {vp vs vi:AV} {q:Nat} (h:eW G c vp vs vi) {m:Nat} (hm:G.length<=m) (hN:c.params.length < 2 ^ 60):∀ (d j:Nat) (tm:List AV) (K:AH) (Z:Option (bk × St)),EvC aa C0 W0 plN Sw (tm,K)=Z->c.params.length - j=d->j<=c.params.length->an G K->tm.length=87->K[m]? =some (.map (py ((pNs c).take j)) ((pNs c).take j).length)->tm.getD 1 uA=.ptr q 0->tm.getD 3 uA=.map m->tm.getD 36 uA=vp->tm.getD 37 uA=I c.params.length->tm.getD 38 uA=I ((j:Nat):Int) ->
   ∃ X Y K1 K2,Z=br (ck (fun j=>zy c j) (c.params.length) (j)) (some (.exit 0,(X,K1))) (some (.ret,(Y,K2)))/\(X.length=87/\an G K1/\(ck (fun j=>zy c j) (c.params.length) (j)=true->K1[m]? =some (.map (py ((pNs c).take c.params.length)) ((pNs c).take c.params.length).length))/\X.getD 1 uA=.ptr q 0/\X.getD 3 uA=.map m/\X.getD 36 uA=vp/\X.getD 37 uA=I c.params.length)/\Y.length=87/\Y.getD 2 uA=.bool false:=by
 intro d;induction d with
 | zero =>
   intro j tm K Z hZ hd hj hA hlen hI h1 h3 h36 h37 h38;subst hZ;have hjl:j=c.params.length:=by omega
   subst hjl;have hlt:ltB (((c.params.length:Nat)):Int) (c.params.length:Nat)=false:=cw (by omega);rw [dk (aw _),M7];simp (maxSteps:=4000000) -implicitDefEqProofs only [Aw,f86,aP,hlen,h1,h3,h36,h37,h38,hlt,↓aG,aF,eu,sevalprocAttr];exact ⟨_,tm.set 2 (.bool false),_,K,rfl,⟨by first | exact hlen | simp only [aq,hlen],hA,by first | exact hI | exact fun _=>hI,by first | exact h1 | simp only [hlen,h1,gB,sevalprocAttr],by first | exact h3 | simp only [hlen,h3,gB,sevalprocAttr],by first | exact h36 | simp only [hlen,h36,gB,sevalprocAttr],by first | exact h37 | simp only [hlen,h37,gB,sevalprocAttr]⟩,by simp only [ls,hlen],by simp only [hlen,dK,aR]⟩
 | succ d ih =>
   intro j tm K Z hZ hd hj hA hlen hI h1 h3 h36 h37 h38;subst hZ;have hjN:j < c.params.length:=by omega
   have hlt:ltB (j:Int) (c.params.length:Nat)=true:=cu (by omega);have hw:=b6 (j:=j) (by omega);have hnz:=Vk h hjN;obtain ⟨i,k,b,hix,hrd0,hrd2⟩:=Ku h hA hjN;have hlk:=lkK hI (gD (pNs c) j);have h104:=fun L=>MX hnz L;have hts:=qA (l:=pNs c) (j:=j) (by rw [k8]; exact hjN);rw [cK hjN,M7];rw [<-af K];cases hp:(zy c j) with
   | true =>unfold zy at hp;rw [az,bl] at hp;obtain ⟨hp1,hp2⟩:=hp;have hmp:=mpK hI hp2;simp only [bf];simp (maxSteps:=4000000) -implicitDefEqProofs only [Aw,f86,aP,hlen,h1,h3,h36,h37,h38,hlt,hw,hix,hrd0,hrd2,hlk,↓nC,h104,z74,wm,jl,↓ba,hp1,hp2,hmp,↓aG,aF,eu,sevalprocAttr];exact ih (j+1) _ _ _ rfl (by omega) (by omega) (by first | exact hA | exact hA.bX _ | exact (hA.bX _).bX _ | exact (hA.m3 hm _).bX _) (by simp only [ls,hlen]) (by rw [hts]; first | exact wI hI _ _ | exact wI hI _ []) (by simp only [hlen,h1,gB,sevalprocAttr]) (by simp only [hlen,h3,gB,sevalprocAttr]) (by simp only [hlen,h36,gB,sevalprocAttr]) (by simp only [hlen,h37,gB,sevalprocAttr]) (by simp only [hlen,h38,gB,sevalprocAttr])
   | false =>
     simp only [bd];unfold zy at hp;cases hp1:lR (gD (pNs c) j) with
     | false =>simp (maxSteps:=4000000) -implicitDefEqProofs only [Aw,f86,aP,hlen,h1,h3,h36,h37,h38,hlt,hw,hix,hrd0,hrd2,hlk,↓nC,h104,z74,wm,jl,↓ba,hp1,↓aG,aF,eu,sevalprocAttr];exact ⟨tm,_,K,_,rfl,⟨hlen,hA,by first | exact trivial | (intro h; cases h),h1,h3,h36,h37⟩,by simp only [ls,hlen],by simp only [hlen,gB,sevalprocAttr]⟩
     | true =>rw [hp1,bf,Bool.not_eq_false'] at hp;simp (maxSteps:=4000000) -implicitDefEqProofs only [Aw,f86,aP,hlen,h1,h3,h36,h37,h38,hlt,hw,hix,hrd0,hrd2,hlk,↓nC,h104,z74,wm,jl,↓ba,hp1,hp,↓aG,aF,eu,sevalprocAttr];exact ⟨tm,_,K,_,rfl,⟨hlen,hA,by first | exact trivial | (intro h; cases h),h1,h3,h36,h37⟩,by simp only [ls,hlen],by simp only [hlen,gB,sevalprocAttr]⟩
theorem Q8 {G:AH} {c:Cod} {vp vs vi:AV} (h:eW G c vp vs vi) {m:Nat} (hm:G.length<=m) (hN:c.shared.length < 2 ^ 60):∀ (d j:Nat) (tm:List AV) (K:AH) (Z:Option (bk × St)),EvC aa C0 W0 plN Sv (tm,K)=Z->c.shared.length - j=d->j<=c.shared.length->an G K->tm.length=87->K[m]? =some (.map (py (pNs c++(sNs c).take j)) (pNs c++(sNs c).take j).length)->tm.getD 3 uA=.map m->tm.getD 57 uA=vs->tm.getD 58 uA=I c.shared.length->tm.getD 59 uA=I ((j:Nat):Int) ->
   ∃ X Y K1 K2,Z=br (ck (fun j=>zt c j) (c.shared.length) (j)) (some (.exit 2,(X,K1))) (some (.ret,(Y,K2)))/\(X.length=87/\an G K1/\(ck (fun j=>zt c j) (c.shared.length) (j)=true->K1[m]? =some (.map (py (pNs c++(sNs c).take c.shared.length)) (pNs c++(sNs c).take c.shared.length).length))/\X.getD 3 uA=.map m/\X.getD 57 uA=vs/\X.getD 58 uA=I c.shared.length)/\Y.length=87/\Y.getD 2 uA=.bool false:=by
 intro d;induction d with
 | zero =>
   intro j tm K Z hZ hd hj hA hlen hI h3 h57 h58 h59;subst hZ;have hjl:j=c.shared.length:=by omega
   subst hjl;have hlt:ltB (((c.shared.length:Nat)):Int) (c.shared.length:Nat)=false:=cw (by omega);rw [dk (aw _),M6];simp (maxSteps:=4000000) -implicitDefEqProofs only [wg,f86,aP,hlen,h3,h57,h58,h59,hlt,↓aG,aF,eu,sevalprocAttr];exact ⟨_,tm.set 2 (.bool false),_,K,rfl,⟨by first | exact hlen | simp only [aq,hlen],hA,by first | exact hI | exact fun _=>hI,by first | exact h3 | simp only [hlen,h3,gB,sevalprocAttr],by first | exact h57 | simp only [hlen,h57,gB,sevalprocAttr],by first | exact h58 | simp only [hlen,h58,gB,sevalprocAttr]⟩,by simp only [ls,hlen],by simp only [hlen,dK,aR]⟩
 | succ d ih =>
   intro j tm K Z hZ hd hj hA hlen hI h3 h57 h58 h59;subst hZ;have hjN:j < c.shared.length:=by omega
   have hlt:ltB (j:Int) (c.shared.length:Nat)=true:=cu (by omega);have hw:=b6 (j:=j) (by omega);have hnz:=Vj h hjN;obtain ⟨i,k,hix,hrd0,hrd1,hrd2⟩:=JI h hA hjN;have hlk:=lkK hI (gD (sNs c) j);have h104:=fun L=>MX hnz L;have hts:=qA (l:=sNs c) (j:=j) (by rw [sZ]; exact hjN);rw [cK hjN,M6];rw [<-af K];cases hp:(zt c j) with
   | true =>unfold zt at hp;rw [az,az,az,bl,bl,bl] at hp;obtain ⟨⟨⟨hp1,hp2⟩,hp3⟩,hp4⟩:=hp;have hmp:=mpK hI hp2;simp only [bf];simp (maxSteps:=4000000) -implicitDefEqProofs only [wg,f86,aP,hlen,h3,h57,h58,h59,hlt,hw,hix,hrd0,hrd1,hrd2,hlk,↓nC,h104,z77,JE,kp,↓ba,hp1,hp2,hp3,hp4,hmp,↓aG,aF,eu,sevalprocAttr];exact ih (j+1) _ _ _ rfl (by omega) (by omega) (by first | exact hA | exact hA.bX _ | exact (hA.bX _).bX _ | exact (hA.m3 hm _).bX _) (by simp only [ls,hlen]) (by rw [hts,<-aD]; first | exact wI hI _ _ | exact wI hI _ []) (by simp only [hlen,h3,gB,sevalprocAttr]) (by simp only [hlen,h57,gB,sevalprocAttr]) (by simp only [hlen,h58,gB,sevalprocAttr]) (by simp only [hlen,h59,gB,sevalprocAttr])
   | false =>
     simp only [bd];unfold zt at hp;cases hp1:lR (gD (sNs c) j) with
     | false =>simp (maxSteps:=4000000) -implicitDefEqProofs only [wg,f86,aP,hlen,h3,h57,h58,h59,hlt,hw,hix,hrd0,hrd1,hrd2,hlk,↓nC,h104,z77,JE,kp,↓ba,hp1,↓aG,aF,eu,sevalprocAttr];exact ⟨tm,_,K,_,rfl,⟨hlen,hA,by first | exact trivial | (intro h; cases h),h3,h57,h58⟩,by simp only [ls,hlen],by simp only [hlen,gB,sevalprocAttr]⟩
     | true =>
       cases hp2:sIn (pNs c++(sNs c).take j) (gD (sNs c) j) with
       | true =>simp (maxSteps:=4000000) -implicitDefEqProofs only [wg,f86,aP,hlen,h3,h57,h58,h59,hlt,hw,hix,hrd0,hrd1,hrd2,hlk,↓nC,h104,z77,JE,kp,↓ba,hp1,hp2,↓aG,aF,eu,sevalprocAttr];exact ⟨tm,_,K,_,rfl,⟨hlen,hA,by first | exact trivial | (intro h; cases h),h3,h57,h58⟩,by simp only [ls,hlen],by simp only [hlen,gB,sevalprocAttr]⟩
       | false =>
         cases hp3:ltB (mZ c j) 1 with
         | true =>simp (maxSteps:=4000000) -implicitDefEqProofs only [wg,f86,aP,hlen,h3,h57,h58,h59,hlt,hw,hix,hrd0,hrd1,hrd2,hlk,↓nC,h104,z77,JE,kp,↓ba,hp1,hp2,hp3,↓aG,aF,eu,sevalprocAttr];exact ⟨tm,_,K,_,rfl,⟨hlen,hA,by first | exact trivial | (intro h; cases h),h3,h57,h58⟩,by simp only [ls,hlen],by simp only [hlen,gB,sevalprocAttr]⟩
         | false =>
           rw [hp1,hp2,hp3] at hp;have hp4:ltB 64 (mZ c j)=true:=by simpa using hp
           simp (maxSteps:=4000000) -implicitDefEqProofs only [wg,f86,aP,hlen,h3,h57,h58,h59,hlt,hw,hix,hrd0,hrd1,hrd2,hlk,↓nC,h104,z77,JE,kp,↓ba,hp1,hp2,hp3,hp4,↓aG,aF,eu,sevalprocAttr];exact ⟨tm,_,K,_,rfl,⟨hlen,hA,by first | exact trivial | (intro h; cases h),h3,h57,h58⟩,by simp only [ls,hlen],by simp only [hlen,gB,sevalprocAttr]⟩
end Go.Dv
