/- Part 19 of the walks (own work). -/
import Derived.Test.YtilpjnckfkjkbaaGreatDoorT18
open Bool renaming and_eq_true→aC,false_and→bc,not_eq_true'→bj,true_and→bd
open List renaming append_assoc→aG,append_nil→af,getElem?_append_left→aw,getElem?_eq_getElem→aj,getElem?_map→aM,getElem?_set_ne→aB,getElem?_set_self→bH,getElem_mem→gM,length→gJ,length_append→ai,length_map→ar,length_set→aq,length_take→d4,map_append→eg,mem_append→cz,mem_singleton→bF,set_append_left→gf,take_add_one→eH
open Nat renaming add_comm→VA,le_add_right→du,le_of_lt→vU,le_refl→ax,le_trans→ba,lt_add_right→NF,lt_of_lt_of_le→bu,lt_succ_of_lt→It,min_eq_left→rV,reduceLT→aQ
open Option renaming bind_eq_some_iff→ae,map_eq_some_iff→ah
open Go.Proofs.Tryz renaming prog→aa
set_option maxRecDepth 100000
set_option maxHeartbeats 4000000
set_option linter.unusedSimpArgs false
set_option linter.unusedVariables false
namespace Go.Dv
open Go.Proofs
attribute [local congr] aF bC aY bB bD
def cu:AV->Option Nat
 | .slice i _ _ _ _ _=>some i
 | _=>none
def bM (v:AV) (K:AH):AH:=match v with
 | .slice i _ _ _ _ _=>K.set i .dead
 | _=>K
theorem dH (v:AV) (K:AH):(bM v K).length=K.length:=by unfold bM; split <;> simp
theorem dp {v:AV} {K:AH} {i:Nat} (h:cu v≠some i):(bM v K)[i]? =K[i]?:=by
 unfold bM
 split
 · rename_i b _ _ _ _ _
   rw [aB fun e=>h (by rw [<-e]; rfl)]
 · rfl
theorem mI {v:AV} {K:AH} {i:Nat} (h:cu v=some i):lB (bM v K) i:=by
 cases v <;> simp only [cu] at h <;> first | (cases h; done) | skip
 cases h
 exact uO K i
theorem zP (v:AV) (K:AH):Sub (bM v K) K:=by
 unfold bM
 split
 · exact Sub.kill K _
 · exact Sub.refl K
theorem zQ {v:AV} {K:AH} (L:AH) (h:∀ i,cu v=some i->i < K.length):bM v (K++L)=bM v K++L:=by
 unfold bM
 split
 · rw [gf _ _ (h _ rfl)]
 · rfl
theorem EX {sT:TypeId} {xT:Option TypeId} {v x v':AV} {K K':AH} (he:f0 aa none sT xT v x K=some (v',K')):∀ i,cu v'=some i->cu v=some i∨K.length<=i:=by
 unfold f0 at he
 split at he
 · cases he
 simp only [ae] at he
 obtain ⟨elem,_,z,_,⟨n,f⟩,_,new,_,he⟩:=he
 split at he
 · split at he
   · split at he
     · cases he; intro i h; cases h
     · split at he
       · obtain ⟨⟨i,H'⟩,hp,he⟩:=ah.1 he
         cases hp; cases he
         intro i h; cases h; exact .inr (ax _)
       · cases he
   · rename_i i k es len cap ex
     split at he
     · split at he
       · cases he; intro i h; exact .inl h
       · split at he
         · split at he
           · obtain ⟨H',hp,he⟩:=ah.1 he
             cases he
             intro i h; cases h; exact .inl rfl
           · cases he
         · split at he
           · split at he
             · obtain ⟨old,_,he⟩:=ae.1 he
               obtain ⟨⟨j,H'⟩,hp,he⟩:=ah.1 he
               cases hp; cases he
               intro i h; cases h; exact .inr (ax _)
             · cases he
           · split at he
             · split at he
               · obtain ⟨old,_,he⟩:=ae.1 he
                 obtain ⟨⟨j,H'⟩,hp,he⟩:=ah.1 he
                 cases hp; cases he
                 intro i h; cases h; right; rw [aq]; exact ax _
               · cases he
             · cases he
     · cases he
   · cases he
 · cases he
theorem gT {b:Nat} {H:AH} {es:Nat} {elem:TypeId} {v:AV} {xs:List AV} (h:Own b H es elem v xs) {i:Nat} (hv:cu v=some i):b<=i/\i < H.length:=by
 cases h with
 | nil=>cases hv
 | «at» i2 k2 len2 cap2 ex2 cs2 xs2 hb2 hi2 hl2 hc2 h2=>cases hv; exact ⟨hb2,aJ hi2⟩
theorem wQ {sT elem:TypeId} {xT:Option TypeId} {es:Nat} (T:pj aa sT xT elem es) {b:Nat} {K:AH} {v:AV} {xs:List AV} (ho:Own b K es elem v xs) (hb:b<=K.length) {x:AV} {new:List AV} (hx:Row K es x new)
   (hone:new.all AV.one=true) (hg:fT (aa.bytesOf elem) (bA v+bA x)=true) :
   ∃ v' K',f0 aa none sT xT v x K=some (v',K')/\Own b K' es elem v' (xs++new)/\K.length<=K'.length/\(∀ j,j < K.length->cu v≠some j->K'[j]? =K[j]?)/\(∀ i,cu v'=some i->cu v=some i∨K.length<=i):=by
 obtain ⟨v',K',he,hown,hlv,hll,hsame⟩:=sw T ho hb hx hone hg
 exact ⟨v',K',he,hown,hll,fun j hj hne=>hsame j hj fun i k len cap ex e h=>hne (by rw [e,h]; rfl),EX he⟩
theorem Et {v v':AV} {K K':AH} (hs:∀ j,j < K.length->cu v≠some j->K'[j]? =K[j]?) (hb:∀ i,cu v'=some i->cu v=some i∨K.length<=i):∀ j,j < K.length->cu v≠some j->(bM v' K')[j]? =K[j]?:=fun j hj hne=>by
 rw [dp,hs j hj hne]
 intro e
 rcases hb j e with h | h
 · exact hne h
 · omega
theorem Eu {D:List Nat} {v v':AV} {K K':AH} (hs:∀ j,j < K.length->cu v≠some j->K'[j]? =K[j]?) (hb:∀ i,cu v'=some i->cu v=some i∨K.length<=i):Sub (d8 D (bM v K)) (d8 D (bM v' K')):=fun i o hi ho=>by
 have hD:i∉D:=fun h=>(iC D (bM v K) i h).ne hi ho rfl
 rw [jV D _ i hD] at hi ⊢
 have hne:cu v≠some i:=fun e=>(mI (K:=K) e).ne hi ho rfl
 rw [dp hne] at hi
 rw [Et hs hb i (aJ hi) hne]; exact hi
def fk (p:Itm × AV):List AV:=aL p.1 p.2
theorem fe (l:List (Itm × AV)):∀ r∈l.map fk,r.length=9:=by
 intro r hr; obtain ⟨p,_,rfl⟩:=List.mem_map.1 hr; rfl
theorem sD:dP aa 34=some (.agg [I 0,I 0,I 0,I 0,I 0,I 0,I 0,.nilSlice,.int .i32 0]):=by kernel_rfl
theorem ZO (cs:List AV) (hc:cs.length=9) (H:AH):bk aa none 31 1 [(0,.agg cs)] H=some (.slice H.length 0 9 1 1 true,H++[.cells cs 34]):=by
 rcases cs with _ | ⟨a,_ | ⟨b,_ | ⟨c,_ | ⟨d,_ | ⟨e,_ | ⟨f,_ | ⟨g,_ | ⟨h,_ | ⟨i,_ | ⟨j,l⟩⟩⟩⟩⟩⟩⟩⟩⟩⟩ <;> simp at hc
 kernel_rfl
theorem adk (a b c d e f g h i:AV) (H L:AH):bk aa none 31 1 [(0,.agg [a,b,c,d,e,f,g,h,i])] (H++L)=some (.slice (H.length+L.length) 0 9 1 1 true,H++(L++[.cells [a,b,c,d,e,f,g,h,i] 34])):=by rw [ZO _ rfl,ai,aG]
theorem PI {H K0:AH} {xs:List Itm} {w0 vs:AV} {q n i:Nat} {D:List Nat} (hH:au H K0) (hx:dY H xs w0) (hxl:xs.length<=1000) (hal:∀ x∈xs,x.args.length<=1000) (hDl:∀ d∈D,d < K0.length) (hN:xs.length < 2 ^ 60):∀ (d j:Nat) (tm:List AV) (K:AH) (Z:Option (bs × St)),EvC aa C0 W0 pf R6 (tm,K)=Z->xs.length - j=d->j<=xs.length->(tm.length=100/\tm.getD 11 uA=.ptr q 0/\tm.getD 67 uA=vs/\tm.getD 68 uA=I n/\tm.getD 69 uA=I i/\tm.getD 73 uA=w0/\tm.getD 74 uA=I xs.length/\tm.getD 75 uA=I ((j:Nat):Int)/\au K0 K/\∃ v,tm.getD 16 uA=v/\∃ pr:List (Itm × AV),pr.map (·.1)=xs.take j/\Own K0.length K 9 34 v (pr.map fk).flatten/\∀ p∈pr,SlS 32 1 (d8 D (bM v K)) p.2 (p.1.args.map dw)) ->
   ∃ X K1,Z=some (.exit 4,(X,K1))/\(X.length=100/\X.getD 11 uA=.ptr q 0/\X.getD 67 uA=vs/\X.getD 68 uA=I n/\X.getD 69 uA=I i/\X.getD 73 uA=w0/\X.getD 74 uA=I xs.length/\X.getD 75 uA=I ((xs.length:Nat):Int)/\au K0 K1/\∃ v,X.getD 16 uA=v/\∃ pr:List (Itm × AV),pr.map (·.1)=xs.take xs.length/\Own K0.length K1 9 34 v (pr.map fk).flatten/\∀ p∈pr,SlS 32 1 (d8 D (bM v K1)) p.2 (p.1.args.map dw)):=by
 intro d
 induction d with
 | zero =>
   intro j tm K Z hZ hd hj hI
   subst hZ
   have hjl:j=xs.length:=by omega
   subst hjl
   have hI0:=hI
   obtain ⟨hlen,h11,h67,h68,h69,h73,h74,h75,hA,v,h16,pr,hpr,ho,hargs⟩:=hI
   have hlt:ltB (((xs.length:Nat)):Int) (xs.length:Nat)=false:=cH (by omega)
   rw [MT]
   simp -implicitDefEqProofs only [GB,Tryz.f10,aP,hlen,h11,h67,h68,h69,h73,h74,h75,h16,hlt,↓cbT,↓cbF,↓ao,an,eu,sevalprocAttr]
   refine ⟨_,K,rfl,?_⟩
   exact ⟨by first | exact hlen | simp only [aq,hlen],Aj7 (by simp only [hlen,h11,h67,h68,h69,h73,h74,h75,gB,and_self,sevalprocAttr]) ⟨hA,v,by simp only [hlen,h16,gB,sevalprocAttr],pr,hpr,ho,hargs⟩⟩
 | succ d ih =>
   intro j tm K Z hZ hd hj hI
   subst hZ
   have hI0:=hI
   obtain ⟨hlen,h11,h67,h68,h69,h73,h74,h75,hA,v,h16,pr,hpr,ho,hargs⟩:=hI
   have hjN:j < xs.length:=by omega
   have hlt:ltB (j:Int) (xs.length:Nat)=true:=cD (by omega)
   have hw:=cp (j:=j) (by omega)
   obtain ⟨i1,k1,va,hix,hrd,hsa⟩:=hx.at (hH.trans hA) hjN
   have hsK:=(hsa.same hH).same hA
   have hac:=hsa.cells
   have hao:=hsa.one
   have hxm:=fi hjN
   have ht:xs.take (j+1)=xs.take j++[bz xs j]:=by rw [eH,yi hjN]; rfl
   have hlar:=hal _ hxm
   generalize bz xs j=x at *
   have h32:=fun L=>LM hsK hlar L
   have hwc:=fun b=>(eG 1 x.args.length va b).1
   have hwo:=fun b=>(eG 1 x.args.length va b).2
   simp only [aL] at hrd
   have hown:=Own.bg ho (au.app K (bl.cells (aL x (bp 1 x.args.length va (K.length+1))) 34::(bo 21 va (jk x.args)++[.cells (aL x (bp 1 x.args.length va (K.length+1))) 34])))
   have hprl:pr.length=j:=by
     have:=congrArg gJ hpr
     rw [ar,d4,rV (vU hjN)] at this; exact this
   have hlv:bA v=j:=by
     have:=ho.length
     rw [dM (fe pr),ar,hprl] at this
     exact (Nat.eq_of_mul_eq_mul_right (by decide) this).symm
   have hone9:(aL x (bp 1 x.args.length va (K.length+1))).all AV.one=true:=by
     show (AV.one _ && (AV.one _ && (AV.one _ && (AV.one _ && (AV.one _ && (AV.one _ && (AV.one _ && (AV.one _ && (AV.one _ && true)))))))))=true
     rw [hwo]; rfl
   obtain ⟨v',K',happ,hown',hll,hsame,hblk⟩:=wQ GD hown (by rw [ai]; exact ba hA.len (du _ _)) (x:=.slice (K.length+((bo 21 va (jk x.args)).length+1)) 0 9 1 1 true) (new:=aL x (bp 1 x.args.length va (K.length+1))) (.at _ _ _ _ _ _ (by
     rw [jN,VA]
     unfold ak
     rw [VA,List.getElem?_cons_succ,List.getElem?_append_right (ax _),Nat.sub_self]; rfl)) hone9 (iD b34 (by rw [hlv,cj]; omega))
   have happ':=happ
   simp only [aL,jk] at happ
   rw [MT]
   rw [<-af K]
   simp -implicitDefEqProofs only [GB,Tryz.f10,aP,hlen,h11,h67,h68,h69,h73,h74,h75,h16,hlt,hw,hix,hrd,sD,ed,fN,↓hac,↓hao,↓hwc,↓hwo,↓UJ,h32,adk,↓ck,happ,r5,↓az,nck,↓cbT,↓cbF,↓ao,an,eu,sevalprocAttr]
   generalize hX:EvC aa C0 W0 _ _ _=Z
   refine ih (j+1) _ _ _ hX (by omega) (by omega) ?_
   refine ⟨by first | exact hlen | simp only [aq,hlen],Aj7 (by simp only [hlen,h11,h67,h68,h69,h73,h74,h75,gB,and_self,sevalprocAttr]) ⟨?_,v',by simp only [hlen,h16,gB,sevalprocAttr],pr++[(x,bp 1 x.args.length va (K.length+1))],?_,?_,?_⟩⟩
   · intro b hb
     rw [hsame b (by rw [ai]; exact bu hb (ba hA.len (du _ _))) (fun e=>by have:=(gT ho e).1; omega),aw (bu hb hA.len),hA b hb]
   · rw [eg,hpr,ht]; rfl
   · rw [eg,List.flatten_append]
     have e:([(x,bp 1 x.args.length va (K.length+1))].map fk).flatten=aL x (bp 1 x.args.length va (K.length+1)):=by
       show aL x _++[]=_
       rw [af]
     rw [e]; exact hown'
   · have hvl:∀ b,cu v=some b->b < K.length:=fun b hb=>(gT ho hb).2
     have hDK:∀ d∈D,d < (bM v K).length:=fun d hd=>by rw [dH]; exact bu (hDl d hd) hA.len
     have hS:=Eu (D:=D) hsame hblk
     rw [zQ _ hvl,uL D _ _ hDK] at hS
     intro p hp
     rcases cz.1 hp with h | h
     · exact ((hargs p h).app _).sub hS
     · rw [bF] at h
       subst h
       refine SlS.sub ?_ hS
       have hl1:(d8 D (bM v K)++[bl.cells (aL x (bp 1 x.args.length va (K.length+1))) 34]).length=K.length+1:=by rw [ai,qG,dH]; rfl
       have hc:=kO (E:=21) (es:=1) (G:=d8 D (bM v K)++[bl.cells (aL x (bp 1 x.args.length va (K.length+1))) 34]) (v:=va) (xs:=jk x.args) (n:=x.args.length) (by decide) (by unfold jk; simp) (fun e=>by have:=mC hsa e; unfold jk; simpa using this)
       rw [hl1] at hc
       have:=hc.s32.app [bl.cells (aL x (bp 1 x.args.length va (K.length+1))) 34]
       simpa only [aG,List.cons_append,List.nil_append] using this
def dV (v:AV) (D:List Nat):List Nat:=match cu v with
 | some b=>b::D
 | none=>D
theorem EJ {v:AV} {D:List Nat} {d:Nat}:d∈dV v D↔cu v=some d∨d∈D:=by
 unfold dV
 cases cu v with
 | none=>simp
 | some b=>simp [eq_comm]
theorem Ss {v:AV} (hv:v.cells=[v]/\v.one=true) (hs:v=.nilSlice∨∃ i k es l c e,v=.slice i k es l c e) (H:AH):bk aa none 25 1 [(0,v)] H=some (.slice H.length 0 1 1 1 true,H++[.cells [v] 31]):=by
 rcases hs with rfl | ⟨i,k,es,l,c,e,rfl⟩ <;> kernel_rfl
theorem Own.sh {b:Nat} {H:AH} {es:Nat} {elem:TypeId} {v:AV} {xs:List AV} (h:Own b H es elem v xs):v=.nilSlice∨∃ i k es l c e,v=.slice i k es l c e:=by
 cases h with
 | nil=>exact .inl rfl
 | «at» i k len cap ex cs xs h1 hi hl hc h=>exact .inr ⟨_,_,_,_,_,_,rfl⟩
theorem Sx:pj aa 25 (some 25) 31 1:=⟨by kernel_rfl,⟨(dP aa 31).getD uA,by kernel_rfl,by kernel_rfl,by (have h:((dP aa 31).getD uA).cells.length=1:=by kernel_rfl); intro e; rw [e] at h; cases h⟩,by kernel_rfl,by kernel_rfl⟩
theorem b31:Nat.ble (aa.bytesOf 31) 1000=true:=by kernel_rfl
theorem Hb (vc vm vs vs' va:AV) (f:Con) (rc:List Bool) (en:Int):(lF vc vm vs va f rc en).set 9 vs'=lF vc vm vs' va f rc en:=rfl
theorem nO (vc vm vs va:AV) (f:Con) {rc:List Bool} (h:rc.length=16) (en:Int):(lF vc vm vs va f rc en).length=28:=by unfold lF fg; simp [h]
def rc0:List Bool:=List.replicate 16 false
structure E2 (D:List Nat) (K5 K:AH) (q:Nat) (cv mv av:AV) (f:Con) (ss:List (List Itm)) (i:Nat):Prop where
 ag:AgX K5 K q
 ex:∃ vq,K[q]? =some (.cells (lF cv mv vq av f rc0 0) 71)/\∃ pr:List (List Itm × AV),pr.map (·.1)=ss.take i/\Own K5.length K 1 31 vq (pr.map (·.2))/\∀ p∈pr,dY (d8 D (bM vq K)) p.1 p.2
theorem PH {H K5:AH} {ss:List (List Itm)} {vs cv mv av:AV} {f:Con} {q:Nat} {D:List Nat} (hH:au H K5) (hHq:H.length<=q) (hq5:q < K5.length) (hs:dy H ss vs) (hn4:ss.length<=4) (hxl:∀ xs∈ss,xs.length<=1000/\∀ x∈xs,x.args.length<=1000) (hqD:q∈D) (hDl:∀ d∈D,d < K5.length) (hN:ss.length < 2 ^ 60):∀ (d j:Nat) (tm:List AV) (K:AH) (Z:Option (bs × St)),EvC aa C0 W0 pf R5 (tm,K)=Z->ss.length - j=d->j<=ss.length->(tm.length=100/\tm.getD 11 uA=.ptr q 0/\tm.getD 67 uA=vs/\tm.getD 68 uA=I ss.length/\tm.getD 69 uA=I ((j:Nat):Int)/\E2 D K5 K q cv mv av f ss j) ->
   ∃ X K1,Z=some (.exit 2,(X,K1))/\(X.length=100/\X.getD 11 uA=.ptr q 0/\X.getD 67 uA=vs/\X.getD 68 uA=I ss.length/\X.getD 69 uA=I ((ss.length:Nat):Int)/\E2 D K5 K1 q cv mv av f ss ss.length):=by
 intro d
 induction d with
 | zero =>
   intro j tm K Z hZ hd hj hI
   subst hZ
   have hjl:j=ss.length:=by omega
   subst hjl
   have hI0:=hI
   obtain ⟨hlen,h11,h67,h68,h69,hI5⟩:=hI
   have hlt:ltB (((ss.length:Nat)):Int) (ss.length:Nat)=false:=cH (by omega)
   rw [MS]
   simp -implicitDefEqProofs only [GA,Tryz.f10,aP,hlen,h11,h67,h68,h69,hlt,↓cbT,↓cbF,↓ao,an,eu,sevalprocAttr]
   refine ⟨_,K,rfl,?_⟩
   exact ⟨by first | exact hlen | simp only [aq,hlen],Aj4 (by simp only [hlen,h11,h67,h68,h69,gB,and_self,sevalprocAttr]) hI5⟩
 | succ d ih =>
   intro j tm K Z hZ hd hj hI
   subst hZ
   have hI0:=hI
   obtain ⟨hlen,h11,h67,h68,h69,hI5⟩:=hI
   have hjN:j < ss.length:=by omega
   have hlt:ltB (j:Int) (ss.length:Nat)=true:=cD (by omega)
   have hw:=cp (j:=j) (by omega)
   obtain ⟨hX5,vq,hKq,prq,hprq,hoq,hitq⟩:=hI5
   have hAH:au H K:=fun i hi=>(hX5.2 i (bu hi hH.len) (by omega)).trans (hH i hi)
   obtain ⟨i0,k0,w0,hix0,hrd0,hxs⟩:=hs.at hAH hjN
   have hln:=hxs.len
   have hsm:=hxl _ (iM hjN)
   have ht:ss.take (j+1)=ss.take j++[aW ss j]:=by rw [eH,nM hjN]; rfl
   have hDq:∀ d∈dV vq D,d < K.length:=fun d hd=>by
     rcases EJ.1 hd with h | h
     · exact (gT hoq h).2
     · exact bu (hDl d h) hX5.1
   generalize aW ss j=xs at *
   rw [MS]
   rw [<-af K]
   simp -implicitDefEqProofs only [GA,Tryz.f10,aP,hlen,h11,h67,h68,h69,hlt,hw,hix0,hrd0,hln,r5,↓az,nck,↓cbT,↓cbF,↓ao,an,eu,sevalprocAttr]
   simp only [af]
   generalize hZ:EvC aa C0 W0 _ (Code.loop _) _=Z
   obtain ⟨X,K1,he,xl,x11,x67,x68,x69,_,_,_,hA1,v,x16,pri,hpri,hov,hargs⟩:=PI (H:=H) (vs:=vs) (q:=q) (n:=ss.length) (i:=j) (D:=dV vq D) hAH hxs hsm.1 hsm.2 hDq (by omega) _ 0 _ _ _ hZ rfl (Nat.zero_le _) ⟨by simp only [ls,hlen],Aj6 (by simp only [hlen,h11,h67,h68,h69,gB,and_self,sevalprocAttr]) ⟨by simp only [hlen,gB,sevalprocAttr]; try rfl,au.refl K,.nilSlice,by simp only [hlen,gB,sevalprocAttr],[],rfl,.nil,by simp⟩⟩
   subst he
   rw [List.take_length] at hpri
   have hq1:K1[q]? =some (.cells (lF cv mv vq av f rc0 0) 71):=hA1.get hKq
   have hq9:ak K1 q 9 1=some [vq]:=by
     unfold ak
     rw [hq1]
     simp only
     rw [if_pos (by rw [nO _ _ _ _ _ rfl]; decide)]; rfl
   have hvc:=hov.cells
   have hvc1:=hvc.1
   have hvc2:=hvc.2
   have hb25:=Ss hvc hov.sh K1
   have hprl:prq.length=j:=by
     have:=congrArg gJ hprq
     rw [ar,d4,rV (vU hjN)] at this; exact this
   have hlq:bA vq=j:=by
     have:=hoq.length
     rw [ar,hprl,Nat.mul_one] at this; exact this.symm
   have hoq1:=(hoq.bg hA1).bg (au.app K1 [bl.cells [v] 31])
   obtain ⟨vq',K2,happ,hown',hll,hsame,hblk⟩:=wQ Sx hoq1 (by rw [ai]; exact ba (ba hX5.1 hA1.len) (du _ _)) (x:=.slice K1.length 0 1 1 1 true) (new:=[v]) (.at _ _ _ _ _ _ (by rw [gu]; rfl)) (by simp [hvc2]) (iD b31 (by rw [hlq,cj]; omega))
   have hqb:cu vq≠some q:=fun e=>by have:=(gT hoq e).1; omega
   have hq1l:=aJ hq1
   have hq2:K2[q]? =some (.cells (lF cv mv vq av f rc0 0) 71):=by
     rw [hsame q (by rw [ai]; exact NF _ hq1l) hqb,aw hq1l]; exact hq1
   have hvq':=hown'.cells
   have hvq1:=hvq'.1
   have hvq2:=hvq'.2
   have hwr:=DI hq2 (k:=9) (x:=vq') (by rw [nO _ _ _ _ _ rfl]; decide) hvq2
   rw [Hb] at hwr
   simp -implicitDefEqProofs only [xl,x11,x67,x68,x69,x16,hw,hq9,hb25,↓hvc1,↓hvq1,↓ck,happ,aav,hwr,r5,↓az,nck,↓cbT,↓cbF,↓ao,an,eu,sevalprocAttr]
   generalize hX':EvC aa C0 W0 _ _ _=Z
   refine ih (j+1) _ _ _ hX' (by omega) (by omega) ?_
   refine ⟨by first | exact xl | simp only [aq,xl],Aj4 (by simp only [xl,x11,x67,x68,x69,gB,and_self,sevalprocAttr]) (⟨⟨?_,?_⟩,vq',?_,prq++[(xs,v)],?_,?_,?_⟩)⟩
   · rw [aq]; rw [ai] at hll; exact ba (ba hX5.1 hA1.len) (ba (du _ _) hll)
   · intro b hb hne
     have hbK:b < K.length:=bu hb hX5.1
     rw [aB (Ne.symm hne),hsame b (by rw [ai]; exact NF _ (bu hbK hA1.len)) (fun e=>by have:=(gT hoq e).1; omega),aw (bu hbK hA1.len),hA1 b hbK]
     exact hX5.2 b hb hne
   · rw [bH (aJ hq2)]
   · rw [eg,hprq,ht]; rfl
   · rw [eg]
     exact hown'.other fun b k e l c x hv=>aB (fun h=>by have:=(gT hown' (i:=b) (by rw [hv]; rfl)).1; omega)
   · have hgv:∀ b o,b∉D->cu vq≠some b->b < K1.length+1->(K1++[bl.cells [v] 31])[b]? =some o->(d8 D (bM vq' (K2.set q (.cells (lF cv mv vq' av f rc0 0) 71))))[b]? =some o:=fun b o hbD hbv hbl hbo=>by
       rw [jV D _ b hbD,dp,aB (fun e=>hbD (by rw [<-e]; exact hqD)),hsame b (by rw [ai]; exact hbl) hbv]
       · exact hbo
       · intro e
         rcases hblk b e with h | h
         · exact hbv h
         · rw [ai] at h; exact absurd hbl (Nat.not_lt.2 h)
     intro p hp
     rcases cz.1 hp with h | h
     · refine (hitq p h).sub fun b o hb ho=>?_
       have hbD:b∉D:=fun h=>(iC D (bM vq K) b h).ne hb ho rfl
       rw [jV D _ b hbD] at hb
       have hbv:cu vq≠some b:=fun e=>(mI (K:=K) e).ne hb ho rfl
       rw [dp hbv] at hb
       have hbK:=aJ hb
       exact hgv b o hbD hbv (bu hbK (ba hA1.len (Nat.le_succ _))) (by rw [aw (bu hbK hA1.len)]; exact hA1.get hb)
     · rw [bF] at h
       subst h
       obtain ⟨_,n1,n2,n3,n4⟩:=hxs
       have hov2:Own K.length (d8 D (bM vq' (K2.set q (.cells (lF cv mv vq' av f rc0 0) 71)))) 9 34 v (pri.map fk).flatten:=hov.other fun b k e l c x hv=>by
         have hb:=gT hov (i:=b) (by rw [hv]; rfl)
         have hbo:=aj hb.2
         rw [hbo]
         exact hgv b _ (fun h=>by have:=hDl b h; have:=hX5.1; omega) (fun e=>by have:=(gT hoq e).2; omega) (It hb.2) (by rw [aw hb.2]; exact hbo)
       refine ⟨⟨pri,hpri,?_,fun p hp=>(hargs p hp).sub fun b o hb ho=>?_⟩,n1,n2,n3,n4⟩
       · exact Own.nB mJ (by decide) hov2 (fe pri)
       · have hbD:b∉dV vq D:=fun h=>(iC _ (bM v K1) b h).ne hb ho rfl
         rw [jV _ _ b hbD] at hb
         have hbv:cu v≠some b:=fun e=>(mI (K:=K1) e).ne hb ho rfl
         rw [dp hbv] at hb
         have hbl:=aJ hb
         exact hgv b o (fun h=>hbD (EJ.2 (.inr h))) (fun e=>hbD (EJ.2 (.inl e))) (It hbl) (by rw [aw hbl]; exact hb)
theorem lkK {K:AH} {m:Nat} {l:List ByteArray} (h:K[m]? =some (.map (pd l) l.length)) (s:ByteArray) (L:AH):iB aa 172 (.map m) (.str s) false (K++L)=some (.bool (sIn l s)):=
 Rb ((au.app K L).get h) s
theorem mpK {K:AH} {m:Nat} {l:List ByteArray} (h:K[m]? =some (.map (pd l) l.length)) {s:ByteArray} (hc:sIn l s=false) (L:AH):iz aa 172 (.map m) (.str s) (.bool true) (K++L)=some (K.set m (.map (pd (l++[s])) (l++[s]).length)++L):=by
 rw [WL ((au.app K L).get h) hc,gf _ _ (aJ h)]
theorem wh {K:AH} {m:Nat} {o:bl} (h:K[m]? =some o) (x:bl) (L:AH):(K.set m x++L)[m]? =some x:=by
 have hl:=aJ h
 rw [aw (by rw [aq]; exact hl),bH hl]
def pNs (c:Cod):List ByteArray:=c.params.map (·.name)
def sNs (c:Cod):List ByteArray:=c.shared.map (·.name)
def gx (l:List ByteArray) (j:Nat):ByteArray:=l.getD j eS
def mP (c:Cod) (j:Nat):Int:=match c.shared[j]? with
 | some a=>a.size
 | none=>0
def zi (c:Cod) (j:Nat):Bool:=lJ (gx (pNs c) j) && !sIn ((pNs c).take j) (gx (pNs c) j)
def ze (c:Cod) (j:Nat):Bool:=lJ (gx (sNs c) j) && !sIn (pNs c++(sNs c).take j) (gx (sNs c) j) && !ltB (mP c j) 1 && !ltB 64 (mP c j)
theorem qt {l:List ByteArray} {j:Nat} (h:j < l.length):l.take (j+1)=l.take j++[gx l j]:=by
 unfold gx
 rw [eH,gde,aj h]; rfl
theorem nmP {c:Cod} {j:Nat} (h:j < c.params.length):gx (pNs c) j=(c.params[j]'h).name:=by
 unfold gx pNs
 rw [gde,aM,aj h]; rfl
theorem nmS {c:Cod} {j:Nat} (h:j < c.shared.length):gx (sNs c) j=(c.shared[j]'h).name:=by
 unfold gx sNs
 rw [gde,aM,aj h]; rfl
theorem szS {c:Cod} {j:Nat} (h:j < c.shared.length):mP c j=(c.shared[j]'h).size:=by
 unfold mP
 rw [aj h]
theorem IV {H K:AH} {c:Cod} {vp vs vi:AV} (h:eO H c vp vs vi) (hA:au H K) {j:Nat} (hj:j < c.shared.length):∃ i k,(∀ kk,aD aa 63 vs (.int kk (j:Int))=some (.ptr i k))/\(∀ L,ak (K++L) i k 1=some [.str (gx (sNs c) j)])/\(∀ L,ak (K++L) i (k+1) 1=some [I (mP c j)])/\(∀ L,ak (K++L) i k 2=some [.str (gx (sNs c) j),I (mP c j)]):=by
 obtain ⟨i,k,hi,hr⟩:=h.s.ix j (kg (c.shared[j]'hj)) (by rw [aM,aj hj]; rfl)
 rw [nmS hj,szS hj]
 exact ⟨i,k,hi,fun L=>zA hr hA L rfl,fun L=>Fi hr hA L 1 rfl,fun L=>iZ hr hA L⟩
theorem JD {H K:AH} {c:Cod} {vp vs vi:AV} (h:eO H c vp vs vi) (hA:au H K) {j:Nat} (hj:j < c.params.length):∃ i k b,(∀ kk,aD aa 62 vp (.int kk (j:Int))=some (.ptr i k))/\(∀ L,ak (K++L) i k 1=some [.str (gx (pNs c) j)])/\(∀ L,ak (K++L) i k 2=some [.str (gx (pNs c) j),.bool b]):=by
 obtain ⟨i,k,hi,hr⟩:=h.p.ix j (ja (c.params[j]'hj)) (by rw [aM,aj hj]; rfl)
 rw [nmP hj]
 exact ⟨i,k,_,hi,fun L=>zA hr hA L rfl,fun L=>iZ hr hA L⟩
theorem T7 {H:AH} {c:Cod} {vp vs vi:AV} (h:eO H c vp vs vi) {j:Nat} (hj:j < c.params.length):(gx (pNs c) j).size < 2 ^ 60:=by rw [nmP hj]; exact h.pn _ (gM _)
theorem T6 {H:AH} {c:Cod} {vp vs vi:AV} (h:eO H c vp vs vi) {j:Nat} (hj:j < c.shared.length):(gx (sNs c) j).size < 2 ^ 60:=by rw [nmS hj]; exact h.sn _ (gM _)
theorem kW (c:Cod):(pNs c).length=c.params.length:=by unfold pNs; rw [ar]
theorem sQ (c:Cod):(sNs c).length=c.shared.length:=by unfold sNs; rw [ar]
theorem PW {G:AH} {c:Cod} {vp vs vi:AV} {q:Nat} (h:eO G c vp vs vi) {m:Nat} (hm:G.length<=m) (hN:c.params.length < 2 ^ 60):∀ (d j:Nat) (tm:List AV) (K:AH) (Z:Option (bs × St)),EvC aa C0 W0 plN Rm (tm,K)=Z->c.params.length - j=d->j<=c.params.length->au G K->tm.length=87->K[m]? =some (.map (pd ((pNs c).take j)) ((pNs c).take j).length)->tm.getD 1 uA=.ptr q 0->tm.getD 3 uA=.map m->tm.getD 36 uA=vp->tm.getD 37 uA=I c.params.length->tm.getD 38 uA=I ((j:Nat):Int) ->
   ∃ X Y K1 K2,Z=br (cd (fun j=>zi c j) (c.params.length) (j)) (some (.exit 0,(X,K1))) (some (.ret,(Y,K2)))/\(X.length=87/\au G K1/\(cd (fun j=>zi c j) (c.params.length) (j)=true->K1[m]? =some (.map (pd ((pNs c).take c.params.length)) ((pNs c).take c.params.length).length))/\X.getD 1 uA=.ptr q 0/\X.getD 3 uA=.map m/\X.getD 36 uA=vp/\X.getD 37 uA=I c.params.length)/\Y.length=87/\Y.getD 2 uA=.bool false:=by
 intro d
 induction d with
 | zero =>
   intro j tm K Z hZ hd hj hA hlen hI h1 h3 h36 h37 h38
   subst hZ
   have hjl:j=c.params.length:=by omega
   subst hjl
   have hlt:ltB (((c.params.length:Nat)):Int) (c.params.length:Nat)=false:=cH (by omega)
   rw [di (ax _),LZ]
   simp (maxSteps:=4000000) -implicitDefEqProofs only [Am,Tryz.f86,aP,hlen,h1,h3,h36,h37,h38,hlt,↓ao,an,eu,sevalprocAttr]
   exact ⟨_,tm.set 2 (.bool false),_,K,rfl,⟨by first | exact hlen | simp only [aq,hlen],hA,by first | exact hI | exact fun _=>hI,by first | exact h1 | simp only [hlen,h1,gB,sevalprocAttr],by first | exact h3 | simp only [hlen,h3,gB,sevalprocAttr],by first | exact h36 | simp only [hlen,h36,gB,sevalprocAttr],by first | exact h37 | simp only [hlen,h37,gB,sevalprocAttr]⟩,by simp only [ls,hlen],by simp only [hlen,dv,aQ]⟩
 | succ d ih =>
   intro j tm K Z hZ hd hj hA hlen hI h1 h3 h36 h37 h38
   subst hZ
   have hjN:j < c.params.length:=by omega
   have hlt:ltB (j:Int) (c.params.length:Nat)=true:=cD (by omega)
   have hw:=cp (j:=j) (by omega)
   have hnz:=T7 h hjN
   obtain ⟨i,k,b,hix,hrd0,hrd2⟩:=JD h hA hjN
   have hlk:=lkK hI (gx (pNs c) j)
   have h104:=fun L=>LP hnz L
   have hts:=qt (l:=pNs c) (j:=j) (by rw [kW]; exact hjN)
   rw [cI hjN,LZ]
   rw [<-af K]
   cases hp:(zi c j) with
   | true =>
     unfold zi at hp
     rw [aC,bj] at hp
     obtain ⟨hp1,hp2⟩:=hp
     have hmp:=mpK hI hp2
     simp only [bd]
     simp (maxSteps:=4000000) -implicitDefEqProofs only [Am,Tryz.f86,aP,hlen,h1,h3,h36,h37,h38,hlt,hw,hix,hrd0,hrd2,hlk,↓nq,h104,z74,vQ,ja,↓az,hp1,hp2,hmp,↓ao,an,eu,sevalprocAttr]
     exact ih (j+1) _ _ _ rfl (by omega) (by omega) (by first | exact hA | exact hA.bS _ | exact (hA.bS _).bS _ | exact (hA.pC hm _).bS _) (by simp only [ls,hlen]) (by rw [hts]; first | exact wh hI _ _ | exact wh hI _ []) (by simp only [hlen,h1,gB,sevalprocAttr]) (by simp only [hlen,h3,gB,sevalprocAttr]) (by simp only [hlen,h36,gB,sevalprocAttr]) (by simp only [hlen,h37,gB,sevalprocAttr]) (by simp only [hlen,h38,gB,sevalprocAttr])
   | false =>
     simp only [bc]
     unfold zi at hp
     cases hp1:lJ (gx (pNs c) j) with
     | false =>
       simp (maxSteps:=4000000) -implicitDefEqProofs only [Am,Tryz.f86,aP,hlen,h1,h3,h36,h37,h38,hlt,hw,hix,hrd0,hrd2,hlk,↓nq,h104,z74,vQ,ja,↓az,hp1,↓ao,an,eu,sevalprocAttr]
       exact ⟨tm,_,K,_,rfl,⟨hlen,hA,by first | exact trivial | (intro h; cases h),h1,h3,h36,h37⟩,by simp only [ls,hlen],by simp only [hlen,gB,sevalprocAttr]⟩
     | true =>
       rw [hp1,bd,Bool.not_eq_false'] at hp
       simp (maxSteps:=4000000) -implicitDefEqProofs only [Am,Tryz.f86,aP,hlen,h1,h3,h36,h37,h38,hlt,hw,hix,hrd0,hrd2,hlk,↓nq,h104,z74,vQ,ja,↓az,hp1,hp,↓ao,an,eu,sevalprocAttr]
       exact ⟨tm,_,K,_,rfl,⟨hlen,hA,by first | exact trivial | (intro h; cases h),h1,h3,h36,h37⟩,by simp only [ls,hlen],by simp only [hlen,gB,sevalprocAttr]⟩
theorem PV {G:AH} {c:Cod} {vp vs vi:AV} (h:eO G c vp vs vi) {m:Nat} (hm:G.length<=m) (hN:c.shared.length < 2 ^ 60):∀ (d j:Nat) (tm:List AV) (K:AH) (Z:Option (bs × St)),EvC aa C0 W0 plN Rl (tm,K)=Z->c.shared.length - j=d->j<=c.shared.length->au G K->tm.length=87->K[m]? =some (.map (pd (pNs c++(sNs c).take j)) (pNs c++(sNs c).take j).length)->tm.getD 3 uA=.map m->tm.getD 57 uA=vs->tm.getD 58 uA=I c.shared.length->tm.getD 59 uA=I ((j:Nat):Int) ->
   ∃ X Y K1 K2,Z=br (cd (fun j=>ze c j) (c.shared.length) (j)) (some (.exit 2,(X,K1))) (some (.ret,(Y,K2)))/\(X.length=87/\au G K1/\(cd (fun j=>ze c j) (c.shared.length) (j)=true->K1[m]? =some (.map (pd (pNs c++(sNs c).take c.shared.length)) (pNs c++(sNs c).take c.shared.length).length))/\X.getD 3 uA=.map m/\X.getD 57 uA=vs/\X.getD 58 uA=I c.shared.length)/\Y.length=87/\Y.getD 2 uA=.bool false:=by
 intro d
 induction d with
 | zero =>
   intro j tm K Z hZ hd hj hA hlen hI h3 h57 h58 h59
   subst hZ
   have hjl:j=c.shared.length:=by omega
   subst hjl
   have hlt:ltB (((c.shared.length:Nat)):Int) (c.shared.length:Nat)=false:=cH (by omega)
   rw [di (ax _),LY]
   simp (maxSteps:=4000000) -implicitDefEqProofs only [vK,Tryz.f86,aP,hlen,h3,h57,h58,h59,hlt,↓ao,an,eu,sevalprocAttr]
   exact ⟨_,tm.set 2 (.bool false),_,K,rfl,⟨by first | exact hlen | simp only [aq,hlen],hA,by first | exact hI | exact fun _=>hI,by first | exact h3 | simp only [hlen,h3,gB,sevalprocAttr],by first | exact h57 | simp only [hlen,h57,gB,sevalprocAttr],by first | exact h58 | simp only [hlen,h58,gB,sevalprocAttr]⟩,by simp only [ls,hlen],by simp only [hlen,dv,aQ]⟩
 | succ d ih =>
   intro j tm K Z hZ hd hj hA hlen hI h3 h57 h58 h59
   subst hZ
   have hjN:j < c.shared.length:=by omega
   have hlt:ltB (j:Int) (c.shared.length:Nat)=true:=cD (by omega)
   have hw:=cp (j:=j) (by omega)
   have hnz:=T6 h hjN
   obtain ⟨i,k,hix,hrd0,hrd1,hrd2⟩:=IV h hA hjN
   have hlk:=lkK hI (gx (sNs c) j)
   have h104:=fun L=>LP hnz L
   have hts:=qt (l:=sNs c) (j:=j) (by rw [sQ]; exact hjN)
   rw [cI hjN,LY]
   rw [<-af K]
   cases hp:(ze c j) with
   | true =>
     unfold ze at hp
     rw [aC,aC,aC,bj,bj,bj] at hp
     obtain ⟨⟨⟨hp1,hp2⟩,hp3⟩,hp4⟩:=hp
     have hmp:=mpK hI hp2
     simp only [bd]
     simp (maxSteps:=4000000) -implicitDefEqProofs only [vK,Tryz.f86,aP,hlen,h3,h57,h58,h59,hlt,hw,hix,hrd0,hrd1,hrd2,hlk,↓nq,h104,z77,IQ,kg,↓az,hp1,hp2,hp3,hp4,hmp,↓ao,an,eu,sevalprocAttr]
     exact ih (j+1) _ _ _ rfl (by omega) (by omega) (by first | exact hA | exact hA.bS _ | exact (hA.bS _).bS _ | exact (hA.pC hm _).bS _) (by simp only [ls,hlen]) (by rw [hts,<-aG]; first | exact wh hI _ _ | exact wh hI _ []) (by simp only [hlen,h3,gB,sevalprocAttr]) (by simp only [hlen,h57,gB,sevalprocAttr]) (by simp only [hlen,h58,gB,sevalprocAttr]) (by simp only [hlen,h59,gB,sevalprocAttr])
   | false =>
     simp only [bc]
     unfold ze at hp
     cases hp1:lJ (gx (sNs c) j) with
     | false =>
       simp (maxSteps:=4000000) -implicitDefEqProofs only [vK,Tryz.f86,aP,hlen,h3,h57,h58,h59,hlt,hw,hix,hrd0,hrd1,hrd2,hlk,↓nq,h104,z77,IQ,kg,↓az,hp1,↓ao,an,eu,sevalprocAttr]
       exact ⟨tm,_,K,_,rfl,⟨hlen,hA,by first | exact trivial | (intro h; cases h),h3,h57,h58⟩,by simp only [ls,hlen],by simp only [hlen,gB,sevalprocAttr]⟩
     | true =>
       cases hp2:sIn (pNs c++(sNs c).take j) (gx (sNs c) j) with
       | true =>
         simp (maxSteps:=4000000) -implicitDefEqProofs only [vK,Tryz.f86,aP,hlen,h3,h57,h58,h59,hlt,hw,hix,hrd0,hrd1,hrd2,hlk,↓nq,h104,z77,IQ,kg,↓az,hp1,hp2,↓ao,an,eu,sevalprocAttr]
         exact ⟨tm,_,K,_,rfl,⟨hlen,hA,by first | exact trivial | (intro h; cases h),h3,h57,h58⟩,by simp only [ls,hlen],by simp only [hlen,gB,sevalprocAttr]⟩
       | false =>
         cases hp3:ltB (mP c j) 1 with
         | true =>
           simp (maxSteps:=4000000) -implicitDefEqProofs only [vK,Tryz.f86,aP,hlen,h3,h57,h58,h59,hlt,hw,hix,hrd0,hrd1,hrd2,hlk,↓nq,h104,z77,IQ,kg,↓az,hp1,hp2,hp3,↓ao,an,eu,sevalprocAttr]
           exact ⟨tm,_,K,_,rfl,⟨hlen,hA,by first | exact trivial | (intro h; cases h),h3,h57,h58⟩,by simp only [ls,hlen],by simp only [hlen,gB,sevalprocAttr]⟩
         | false =>
           rw [hp1,hp2,hp3] at hp
           have hp4:ltB 64 (mP c j)=true:=by simpa using hp
           simp (maxSteps:=4000000) -implicitDefEqProofs only [vK,Tryz.f86,aP,hlen,h3,h57,h58,h59,hlt,hw,hix,hrd0,hrd1,hrd2,hlk,↓nq,h104,z77,IQ,kg,↓az,hp1,hp2,hp3,hp4,↓ao,an,eu,sevalprocAttr]
           exact ⟨tm,_,K,_,rfl,⟨hlen,hA,by first | exact trivial | (intro h; cases h),h3,h57,h58⟩,by simp only [ls,hlen],by simp only [hlen,gB,sevalprocAttr]⟩
end Go.Dv
