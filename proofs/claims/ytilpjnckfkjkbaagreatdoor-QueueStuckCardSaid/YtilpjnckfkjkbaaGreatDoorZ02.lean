/- Part 02 of the walks (own work). -/
import Derived.Test.YtilpjnckfkjkbaaGreatDoorZ01
import Derived.IntWalk
set_option maxRecDepth 100000
set_option maxHeartbeats 4000000
set_option linter.unusedSimpArgs false
set_option linter.unusedVariables false
namespace Go.Dv
def partA (P:Program) (t:TypeId) (cs:List AV) (off:Nat):Option AV:=
 match isAggA P t with
 | some true=>some (.agg ((cs.drop off).take (P.cellsOf t)))
 | some false=>cs[off]?
 | none=>none
def fieldA (P:Program) (t:TypeId) (x:AV) (f:Nat):Option AV:=
 match P.underlying t,x with
 | some (.struct fs),.agg cs=>(fs[f]?).bind fun fd=>partA P fd.type cs fd.offset
 | _,_=>none
def fieldAddrA (P:Program) (t:TypeId) (x:AV) (f:Nat):Option AV:=
 match P.underlying t,x with
 | some (.struct fs),.ptr i k=>(fs[f]?).bind fun fd=>if P.cellsOf fd.type=0 then none else (P.info? fd.type).map fun _=>.ptr i (k+fd.offset)
 | _,_=>none
def indexAddrA (P:Program) (t:TypeId) (x ix:AV):Option AV:=
 match P.underlying t,x,ix with
 | some (.slice elem),.slice i k es len _ _,.int _ n =>
   if 0<=n/\n < len/\P.cellsOf elem=es then (P.info? elem).map fun _=>.ptr i (k+n.toNat * es) else none
 | some (.array len elem),.ptr i k,.int _ n =>
   if 0<=n/\n < len then (P.info? elem).map fun _=>.ptr i (k+n.toNat * P.cellsOf elem) else none
 | _,_,_=>none
section
variable {P:Program} {w0:World} {Pr:Nat->Prop} {φ:Env} {H:AH} {w:World}
theorem partA_spec {t:TypeId} {cs:List AV} {us:Array Value} {off:Nat} {v:AV} (r:VRs φ cs us.toList) (h:partA P t cs off=some v) :
   ∃ u,(∀ w,(part t us off).run P w=.ok u w)/\VR φ v u:=by
 unfold partA at h
 split at h
 · rename_i ha
   cases h
   obtain ⟨ti,hti⟩:=isAgg_info ha
   refine ⟨.agg (us.extract off (off+P.cellsOf t)),fun w=>?_,_,rfl,?_⟩
   · simp only [part,Sem.run_bind,run_isAgg ha,Result.andThen_ok,if_true,run_size hti,Sem.run_pure]
   · have:=(r.drop off).take (P.cellsOf t)
     simpa [Array.toList_extract,List.extract_eq_take_drop] using this
 · rename_i ha
   obtain ⟨u,hu,ru⟩:=r.get off v h
   refine ⟨u,fun w=>?_,ru⟩
   have hu':us[off]? =some u:=by simpa using hu
   simp only [part,Sem.run_bind,run_isAgg ha,Result.andThen_ok,Bool.false_eq_true,if_false,hu',Sem.run_pure]
 · cases h
theorem fieldA_spec {t:TypeId} {x:AV} {u:Value} {f:Nat} {v:AV} (r:VR φ x u) (h:fieldA P t x f=some v) :
   ∃ y,(∀ w,(Instr.field t u f).run P w=.ok y w)/\VR φ v y:=by
 unfold fieldA at h
 split at h
 · rename_i fs cs hu
   simp only [Option.bind_eq_some_iff] at h
   obtain ⟨fd,hf,hp⟩:=h
   obtain ⟨us,rfl,rs⟩:=r
   obtain ⟨y,hy,ry⟩:=partA_spec (P:=P) rs hp
   refine ⟨y,fun w=>?_,ry⟩
   simp only [Instr.field,Sem.run_bind,run_und hu,Result.andThen_ok,hf,asAgg,Sem.run_pure,hy]
 · cases h
theorem fieldAddrA_spec {t:TypeId} {x:AV} {u:Value} {f:Nat} {v:AV} (r:VR φ x u) (h:fieldAddrA P t x f=some v) :
   ∃ y,(∀ w,(Instr.fieldAt t u f).run P w=.ok y w)/\VR φ v y:=by
 unfold fieldAddrA at h
 split at h
 · rename_i fs i k hu
   simp only [Option.bind_eq_some_iff] at h
   obtain ⟨fd,hf,hp⟩:=h
   split at hp
   · cases hp
   · rename_i hz
     simp only [Option.map_eq_some_iff] at hp
     obtain ⟨ti,hti,rfl⟩:=hp
     obtain ⟨b,o,z,hφ,rfl⟩:=r
     refine ⟨_,fun w=>?_,b,o,z,hφ,rfl⟩
     simp only [Instr.fieldAt,Sem.run_bind,run_und hu,Result.andThen_ok,hf,Instr.sureAddr,Sem.run_pure,fieldPlace,run_size hti,if_neg hz,Sem.run_ite,add_none,Nat.add_assoc]
 · cases h
theorem indexAddrA_spec {t:TypeId} {x ix:AV} {u ui:Value} {v:AV} (r:VR φ x u) (ri:VR φ ix ui) (h:indexAddrA P t x ix=some v) :
   ∃ y,(∀ w,(Instr.indexAt t u ui).run P w=.ok y w)/\VR φ v y:=by
 unfold indexAddrA at h
 split at h
 · rename_i elem i k es len cap ex kk n hu
   split at h
   · rename_i hc
     obtain ⟨h0,h1,hes⟩:=hc
     simp only [Option.map_eq_some_iff] at h
     obtain ⟨ti,hti,rfl⟩:=h
     obtain ⟨a,c,rfl,hlc,hcc,ha⟩:=r
     simp only [VR] at ri; subst ri
     have hc0:c≠0:=by omega
     obtain ⟨b,o,z,hφ,rfl,hb⟩:=ha.resolve_left hc0
     refine ⟨_,fun w=>?_,b,o,z,hφ,rfl⟩
     simp only [Instr.indexAt,Sem.run_bind,asIntOf,Sem.run_pure,run_und hu,Result.andThen_ok,Bool.and_false,Bool.false_eq_true,if_false,Sem.run_ite]
     rw [if_pos ⟨h0,h1⟩]
     simp [run_size hti,add_none,hes,Nat.add_assoc]
   · cases h
 · rename_i len elem i k kk n hu
   split at h
   · rename_i hc
     obtain ⟨h0,h1⟩:=hc
     simp only [Option.map_eq_some_iff] at h
     obtain ⟨ti,hti,rfl⟩:=h
     obtain ⟨b,o,z,hφ,rfl⟩:=r
     simp only [VR] at ri; subst ri
     refine ⟨_,fun w=>?_,b,o,z,hφ,rfl⟩
     simp only [Instr.indexAt,Sem.run_bind,asIntOf,Sem.run_pure,run_und hu,Result.andThen_ok,Instr.sureAddr,Sem.run_ite]
     rw [if_pos ⟨h0,h1⟩]
     simp [run_size hti,add_none,Nat.add_assoc]
   · cases h
 · cases h
def boundA (d:Nat):Option AV->Option Nat
 | none=>some d
 | some (.int _ n)=>if 0<=n then some n.toNat else none
 | some _=>none
def sliceA (P:Program) (t:TypeId) (H:AH) (x:AV) (lo hi mx:Option AV):Option AV:=
 match P.underlying t,x with
 | some (.slice elem),.slice i k es len cap ex =>
   match boundA 0 lo,boundA len hi with
   | some l,some h =>
     match mx with
     | none=>if l<=h/\h<=cap/\P.cellsOf elem=es then (P.info? elem).map fun _=>.slice i (k+l * es) es (h - l) (cap - l) ex else none
     | some m=>match boundA 0 (some m) with
       | some m=>if hi.isSome=true/\l<=h/\h<=m/\m<=cap/\P.cellsOf elem=es then (P.info? elem).map fun _=>.slice i (k+l * es) es (h - l) (m - l) true else none
       | none=>none
   | _,_=>none
 | some (.slice elem),.nilSlice =>
   match boundA 0 lo,boundA 0 hi,mx with
   | some 0,some 0,none=>(P.info? elem).map fun _=>.nilSlice
   | _,_,_=>none
 | some (.array n elem),.ptr i k =>
   match boundA 0 lo,boundA n hi,mx,H[i]? with
   | some l,some h,none,some (.cells cs _)=>if l<=h/\h<=n/\k+n * P.cellsOf elem<=cs.length then (P.info? elem).map fun _=>.slice i (k+l * P.cellsOf elem) (P.cellsOf elem) (h - l) (n - l) true else none
   | _,_,_,_=>none
 | _,_=>none
end
end Go.Dv
namespace Go.Dv
def OVR (φ:Env):Option AV->Option Value->Prop
 | none,v=>v=none
 | some x,v=>∃ u,v=some u/\VR φ x u
section
variable {P:Program} {w0:World} {Pr:Nat->Prop} {φ:Env} {H:AH} {w:World}
theorem run_bound {x:AV} {u:Value} {n y:Nat} (r:VR φ x u) (hb:boundA 0 (some x)=some n) (hy:n<=y) (code:BoundsCode) :
   (Instr.sliceBound u y code).run P w=.ok n w:=by
 cases x <;> simp only [boundA] at hb <;> try (cases hb; done)
 rename_i k i
 split at hb
 · rename_i h0
   cases hb
   simp only [VR] at r; subst r
   simp only [Instr.sliceBound,asIntOf,Sem.run_bind,Sem.run_pure,Result.andThen_ok,Sem.run_ite]
   rw [if_pos ⟨h0,by omega⟩]
 · cases hb
theorem boundA_some (d:Nat) (x:AV):boundA d (some x)=boundA 0 (some x):=by cases x <;> rfl
theorem run_bounds {isS:Bool} {len cap l h:Nat} {lo hi:Option AV} {lo' hi':Option Value} (rl:OVR φ lo lo') (rh:OVR φ hi hi')
   (hl:boundA 0 lo=some l) (hh:boundA len hi=some h) (hlh:l<=h) (hc:h<=cap) :
   (Instr.sliceBounds isS len cap lo' hi' none).run P w=.ok (l,h,cap) w:=by
 cases lo with
 | none =>
   cases hl; obtain rfl:=rl
   cases hi with
   | none=>cases hh; obtain rfl:=rh; simp [Instr.sliceBounds]
   | some y =>
     obtain ⟨u,rfl,ru⟩:=rh
     rw [boundA_some] at hh
     have:=fun code=>run_bound (P:=P) (w:=w) ru hh hc code
     simp [Instr.sliceBounds,this]
 | some x =>
   obtain ⟨v,rfl,rv⟩:=rl
   have h1:=fun code=>run_bound (P:=P) (w:=w) rv hl hlh code
   cases hi with
   | none=>cases hh; obtain rfl:=rh; simp [Instr.sliceBounds,h1]
   | some y =>
     obtain ⟨u,rfl,ru⟩:=rh
     rw [boundA_some] at hh
     have:=fun code=>run_bound (P:=P) (w:=w) ru hh hc code
     simp [Instr.sliceBounds,this,h1]
theorem run_bounds_max {isS:Bool} {len cap l h m:Nat} {lo:Option AV} {hi mx:AV} {lo':Option Value} {hi' mx':Value} (rl:OVR φ lo lo') (rh:VR φ hi hi') (rm:VR φ mx mx')
   (hl:boundA 0 lo=some l) (hh:boundA 0 (some hi)=some h) (hm:boundA 0 (some mx)=some m) (hlh:l<=h) (hc:h<=m) (hmc:m<=cap) :
   (Instr.sliceBounds isS len cap lo' (some hi') (some mx')).run P w=.ok (l,h,m) w:=by
 have h2:=fun code=>run_bound (P:=P) (w:=w) rh hh hc code
 have h3:=fun code=>run_bound (P:=P) (w:=w) rm hm hmc code
 cases lo with
 | none=>cases hl; obtain rfl:=rl; simp [Instr.sliceBounds,h2,h3]
 | some x =>
   obtain ⟨v,rfl,rv⟩:=rl
   have h1:=fun code=>run_bound (P:=P) (w:=w) rv hl hlh code
   simp [Instr.sliceBounds,h1,h2,h3]
theorem room (o k l c es z:Nat) (hlc:l<=c) (h:o+k+c * es<=z):o+(k+l * es)+(c - l) * es<=z:=by
 have:l * es+(c - l) * es=c * es:=by rw [<-Nat.add_mul]; congr 1; omega
 omega
theorem cut_VR {i k es l h c c' cap':Nat} {a:Addr} {ex':Bool} (hcc:c'<=c)
   (ha:c=0∨∃ b o z,φ i=some (b,o,z)/\a=⟨b,o+k,none⟩/\o+k+c * es<=z) (hh:h - l<=cap') (hlc:l<=c') (hcap:cap'<=c' - l/\(ex'=true->c' - l=cap')) :
   VR φ (.slice i (k+l * es) es (h - l) cap' ex') (.slice (some (if c'=l then a else a.add (l * es))) (h - l) (c' - l)):=by
 refine ⟨_,_,rfl,hh,hcap,?_⟩
 by_cases e:c'=l
 · left; omega
 · right
   obtain ⟨b,o,z,hφ,rfl,hb⟩:=ha.resolve_left (by omega)
   rw [if_neg e,add_none]
   have:=room o k l c' es z hlc (Nat.le_trans (by have:=Nat.mul_le_mul_right es hcc; omega) hb)
   exact ⟨b,o,z,hφ,by rw [Nat.add_assoc],this⟩
theorem sliceA_spec (hW:WR w0 Pr φ H w) {t:TypeId} {x:AV} {u:Value} {lo hi mx:Option AV} {lo' hi' mx':Option Value} {v:AV} (r:VR φ x u) (rl:OVR φ lo lo') (rh:OVR φ hi hi') (rm:OVR φ mx mx')
   (hs:sliceA P t H x lo hi mx=some v):∃ y,(Instr.sliceAt t u lo' hi' mx').run P w=.ok y w/\VR φ v y:=by
 unfold sliceA at hs
 split at hs
 · rename_i elem i k es len cap ex hu
   split at hs
   · rename_i l h hl hh
     obtain ⟨a,c,rfl,hlc,⟨hcap,hex⟩,ha⟩:=r
     split at hs
     · split at hs
       · rename_i hc
         obtain ⟨hlh,hhc,hes⟩:=hc
         simp only [Option.map_eq_some_iff] at hs
         obtain ⟨ti,hti,rfl⟩:=hs
         obtain rfl:=rm
         have hhc':h<=c:=by omega
         refine ⟨_,?_,cut_VR (Nat.le_refl c) ha (by omega) (by omega) ⟨by omega,fun e=>by have:=hex e; omega⟩⟩
         · simp only [Instr.sliceAt,Instr.slice,Sem.run_bind,run_und hu,Result.andThen_ok,run_bounds rl rh hl hh hlh hhc',run_size hti,hes,Sem.run_pure]
           by_cases e:c=l <;> simp [e]
       · cases hs
     · rename_i m
       split at hs
       · rename_i m hm
         split at hs
         · rename_i hc
           obtain ⟨hhi,hlh,hhm,hmc,hes⟩:=hc
           simp only [Option.map_eq_some_iff] at hs
           obtain ⟨ti,hti,rfl⟩:=hs
           obtain ⟨um,rfl,rum⟩:=rm
           cases hi with
           | none=>cases hhi
           | some xh =>
             obtain ⟨uh,rfl,ruh⟩:=rh
             rw [boundA_some] at hh
             have hmc':m<=c:=by omega
             refine ⟨_,?_,cut_VR hmc' ha (by omega) (by omega) ⟨by omega,fun _=>rfl⟩⟩
             simp only [Instr.sliceAt,Instr.slice,Sem.run_bind,run_und hu,Result.andThen_ok,run_bounds_max rl ruh rum hl hh hm hlh hhm hmc',run_size hti,hes,Sem.run_pure]
             by_cases e:m=l <;> simp [e]
         · cases hs
       · cases hs
   · cases hs
 · rename_i elem hu
   split at hs
   · rename_i hl hh
     simp only [Option.map_eq_some_iff] at hs
     obtain ⟨ti,hti,rfl⟩:=hs
     obtain rfl:=rm
     simp only [VR] at r; subst r
     refine ⟨_,?_,rfl⟩
     simp only [Instr.sliceAt,Instr.slice,Sem.run_bind,run_und hu,Result.andThen_ok,run_bounds rl rh hl hh (Nat.le_refl 0) (Nat.le_refl 0),run_size hti,Sem.run_pure]
     simp
   · cases hs
 · rename_i n elem i k hu
   split at hs
   · rename_i l h cs e' hl hh hi'
     split at hs
     · rename_i hc
       obtain ⟨hlh,hhn,hk⟩:=hc
       simp only [Option.map_eq_some_iff] at hs
       obtain ⟨ti,hti,rfl⟩:=hs
       obtain rfl:=rm
       obtain ⟨b,o,z,hφ,rfl⟩:=r
       obtain ⟨b',o',z',c,hφ',_,_,hlz,_⟩:=hW.obj i _ hi'
       rw [hφ] at hφ'; cases hφ'
       refine ⟨_,?_,cut_VR (Nat.le_refl n) (a:=⟨b,o+k,none⟩) (.inr ⟨b,o,_,hφ,rfl,by omega⟩) (by omega) (by omega) ⟨by omega,fun _=>rfl⟩⟩
       simp only [Instr.sliceAt,Sem.run_bind,run_und hu,Result.andThen_ok,Instr.sureAddr,run_bounds rl rh hl hh hlh hhn,run_size hti,Sem.run_pure]
     · cases hs
   · cases hs
 · cases hs
def fillA (place:Nat->Option (Nat × Nat)) (cells:List AV):List (Nat × AV)->Option (List AV)
 | []=>some cells
 | (i,v)::rest =>
   match place i with
   | none=>none
   | some (off,size)=>if v.cells.length≠size∨off+v.cells.length > cells.length then none else fillA place (spl cells off v.cells) rest
def PVR (φ:Env):List (Nat × AV)->List (Nat × Value)->Prop
 | [],l=>l=[]
 | (i,x)::xs,l=>∃ u us,l=(i,u)::us/\VR φ x u/\PVR φ xs us
theorem splice_VRs:∀ (xs:List AV) (vs:List Value) (cs:List AV) (us:Array Value) (off n:Nat),VRs φ xs vs->VRs φ cs us.toList ->
   VRs φ (spl cs (off+n) xs) ((vs.zipIdx n).foldl (fun cs (c,j)=>cs.setIfInBounds (off+j) c) us).toList
 | [],vs,cs,us,off,n,r,rc=>by rw [show vs=[] from r]; exact rc
 | x::xs,_,cs,us,off,n,⟨v,vs,e,rx,rs⟩,rc=>by
   subst e
   simp only [spl,List.zipIdx_cons,List.foldl_cons]
   have:=splice_VRs xs vs (cs.set (off+n) x) (us.setIfInBounds (off+n) v) off (n+1) rs (by simpa using rc.set (off+n) rx)
   exact this
theorem fillA_spec {place:Nat->Option (Nat × Nat)}:∀ (ps:List (Nat × AV)) (qs:List (Nat × Value)) (cs:List AV) (us:Array Value) (res:List AV),PVR φ ps qs->VRs φ cs us.toList ->
   fillA place cs ps=some res->∃ out:Array Value,Instr.fill place us qs=some out/\VRs φ res out.toList
 | [],qs,cs,us,res,r,rc,h=>by
   rw [show qs=[] from r]
   simp only [fillA,Option.some.injEq] at h; subst h
   exact ⟨us,rfl,rc⟩
 | (i,x)::ps,_,cs,us,res,⟨v,qs,e,rx,rs⟩,rc,h=>by
   subst e
   simp only [fillA] at h
   split at h
   · cases h
   · rename_i off size hpl
     split at h
     · cases h
     · rename_i hc
       have hsz:v.cells.size=x.cells.length:=by rw [rx.cells.length]; simp
       have hul:us.size=cs.length:=by rw [rc.length]; simp
       have hcs:=splice_VRs x.cells v.cells.toList cs us off 0 rx.cells rc
       rw [Nat.add_zero] at hcs
       obtain ⟨out,ho,ro⟩:=fillA_spec ps qs _ (v.cells.zipIdx.foldl (fun cs (c,j)=>cs.setIfInBounds (off+j) c) us) res rs (by
         rw [<-Array.foldl_toList,Array.toList_zipIdx]; exact hcs) h
       refine ⟨out,?_,ro⟩
       simp only [Instr.fill,hpl]
       rw [if_neg (by simp; omega)]
       exact ho
end
end Go.Dv
namespace Go.Dv
def placesA (P:Program) (t:TypeId):Option (Nat->Option (Nat × Nat)):=
 match P.underlying t with
 | some (.struct fs)=>if fs.toList.all (fun f=>(P.info? f.type).isSome)=true then some fun i=>(fs[i]?).map fun f=>(f.offset,P.cellsOf f.type) else none
 | some (.array _ elem)=>(P.info? elem).map fun _=>fun i=>some (i * P.cellsOf elem,P.cellsOf elem)
 | _=>none
def buildA (P:Program) (t:TypeId) (ps:List (Nat × AV)):Option AV:=
 (zeroA P t).bind fun z=>(placesA P t).bind fun pl=>(fillA pl z.cells ps).map .agg
def zrow (zs:List AV) (n:Nat):List AV:=(List.range n).map fun j=>zs.getD (j % zs.length) uA
def sliceElem (P:Program) (t:TypeId):Option TypeId:=
 match P.underlying t with
 | some (.slice e)=>some e
 | _=>none
def buildSliceA (P:Program) (slot:Option Nat) (t:TypeId) (len:Nat) (ps:List (Nat × AV)) (H:AH):Option (AV × AH):=
 (sliceElem P t).bind fun elem=>(zeroA P elem).bind fun z =>
   if len * P.cellsOf elem<=2 ^ 24/\z.cells≠[] then
     (fillA (fun i=>some (i * P.cellsOf elem,P.cellsOf elem)) (zrow z.cells (len * P.cellsOf elem)) ps).bind fun cs =>
       (put slot H (.cells cs elem)).map fun (i,H')=>(.slice i 0 (P.cellsOf elem) len len true,H')
   else none
def makeSliceA (P:Program) (slot:Option Nat) (t:TypeId) (l c:AV) (H:AH):Option (AV × AH):=
 match l,c with
 | .int _ l,.int _ c =>
   (sliceElem P t).bind fun elem=>(zeroA P elem).bind fun z =>
     if 0<=l/\l<=c/\c < 2 ^ 62/\P.bytesOf elem * c<=2 ^ 48/\z.cells≠[] then
       (put slot H (.cells (zrow z.cells (c.toNat * P.cellsOf elem)) elem)).map fun (i,H')=>(.slice i 0 (P.cellsOf elem) l.toNat c.toNat true,H')
     else none
 | _,_=>none
section
variable {P:Program} {w0:World} {Pr:Nat->Prop} {φ:Env} {H:AH} {w:World}
theorem run_mapM_places:∀ (fs:List Field),(fs.all fun f=>(P.info? f.type).isSome)=true ->
   (fs.mapM fun (f:Field)=>do pure (f.offset,<-sizeOf f.type):Sem (List (Nat × Nat))).run P w=.ok (fs.map fun f=>(f.offset,P.cellsOf f.type)) w
 | [],_=>rfl
 | f::fs,h=>by
   simp only [List.all_cons,Bool.and_eq_true] at h
   obtain ⟨ti,hti⟩:=Option.isSome_iff_exists.1 h.1
   have ih:=run_mapM_places fs h.2
   simp only [List.mapM_cons,Sem.run_bind,run_size hti,Result.andThen_ok,Sem.run_pure,ih,List.map_cons]
theorem buildA_spec {t:TypeId} {ps:List (Nat × AV)} {qs:Array (Nat × Value)} {v:AV} (r:PVR φ ps qs.toList) (h:buildA P t ps=some v) :
   ∃ y,(Instr.build t qs).run P w=.ok y w/\VR φ v y:=by
 simp only [buildA,Option.bind_eq_some_iff,Option.map_eq_some_iff] at h
 obtain ⟨z,hz,pl,hpl,cs,hcs,rfl⟩:=h
 obtain ⟨ti,zv,hti,hzv,rz⟩:=zeroA_spec hz φ
 unfold placesA at hpl
 split at hpl
 · rename_i fs hu
   split at hpl
   · rename_i hall
     cases hpl
     obtain ⟨out,ho,ro⟩:=fillA_spec (place:=fun i=>(fs[i]?).map fun f=>(f.offset,P.cellsOf f.type)) ps qs.toList _ zv.cells cs r rz.cells hcs
     refine ⟨.agg out,?_,out,rfl,ro⟩
     have hm:=run_mapM_places (P:=P) (w:=w) fs.toList hall
     have hg:(fun (i:Nat)=>(fs.toList.map fun (f:Field)=>(f.offset,P.cellsOf f.type)).toArray[i]?)=fun (i:Nat)=>(fs[i]?).map fun (f:Field)=>(f.offset,P.cellsOf f.type):=by
       funext i; simp
     simp only [Instr.build,Sem.run_bind,run_zero hti hzv,Result.andThen_ok,run_und hu,Array.mapM_eq_mapM_toList,Sem.run_map,hm,hg,ho,Sem.run_pure]
   · cases hpl
 · rename_i n elem hu
   simp only [Option.map_eq_some_iff] at hpl
   obtain ⟨ei,hei,rfl⟩:=hpl
   obtain ⟨out,ho,ro⟩:=fillA_spec (place:=fun i=>some (i * P.cellsOf elem,P.cellsOf elem)) ps qs.toList _ zv.cells cs r rz.cells hcs
   refine ⟨.agg out,?_,out,rfl,ro⟩
   simp only [Instr.build,Sem.run_bind,run_zero hti hzv,Result.andThen_ok,run_und hu,run_size hei,ho,Sem.run_pure]
 · cases hpl
theorem zrow_VRs {zs:List AV} {us:Array Value} (n:Nat) (r:VRs φ zs us.toList) (hne:zs≠[]) :
   VRs φ (zrow zs n) ((Array.range n).map (us[· % us.size]!)).toList:=by
 have hlen:zs.length=us.size:=by simpa using r.length
 have hpos:0 < zs.length:=by cases zs with | nil=>exact absurd rfl hne | cons=>simp
 refine .of_get (by simp [zrow]) fun j x v hx hv=>?_
 have hj:j < n:=by simpa [zrow] using lt_of_get hx
 have hm:j % zs.length < zs.length:=Nat.mod_lt _ hpos
 have hx':x=zs[j % zs.length]:=by
   simp [zrow,hj,List.getD,List.getElem?_eq_getElem hm] at hx; exact hx.symm
 obtain ⟨u,hu,ru⟩:=r.get (j % zs.length) _ (List.getElem?_eq_getElem hm)
 have hv':v=us[j % us.size]!:=by simp [hj] at hv; exact hv.symm
 rw [hx',hv',<-hlen]
 have:us[j % zs.length]! =u:=by
   have h':us[j % zs.length]? =some u:=by simpa using hu
   rw [getElem!_def,h']
 rw [this]; exact ru
theorem sliceElem_spec {t e:TypeId} (h:sliceElem P t=some e):P.underlying t=some (.slice e):=by
 unfold sliceElem at h
 split at h
 · rename_i hu; cases h; exact hu
 · cases h
theorem buildSliceA_spec (hW:WR w0 Pr φ H w) {slot:Option Nat} {t:TypeId} {len:Nat} {ps:List (Nat × AV)} {qs:Array (Nat × Value)} {v:AV} {H':AH} (r:PVR φ ps qs.toList)
   (h:buildSliceA P slot t len ps H=some (v,H')) :
   ∃ φ' w' y,φ.le φ'/\WR w0 Pr φ' H' w'/\(Instr.buildSlice t len qs).run P w=.ok y w'/\VR φ' v y:=by
 simp only [buildSliceA,Option.bind_eq_some_iff] at h
 obtain ⟨elem,hel,z,hz,h⟩:=h
 split at h
 · rename_i hc
   obtain ⟨hlim,hne⟩:=hc
   simp only [Option.bind_eq_some_iff,Option.map_eq_some_iff] at h
   obtain ⟨cs,hcs,⟨i,H1⟩,hp,hv⟩:=h
   cases hv
   obtain ⟨ti,zv,hti,hzv,rz⟩:=zeroA_spec hz φ
   have hu:=sliceElem_spec hel
   have key:∀ arr:Array Value,VRs φ (zrow z.cells (len * P.cellsOf elem)) arr.toList->∃ φ' w' y,φ.le φ'/\WR w0 Pr φ' H1 w' /\
       ((do let some cells:=Instr.fill (fun i=>some (i * P.cellsOf elem,P.cellsOf elem)) arr qs.toList | stuck "buildSlice: a part of the wrong size"
            pure (.slice (some (<-newRow elem cells)) len len)):Sem Value).run P w=.ok y w'/\VR φ' (.slice i 0 (P.cellsOf elem) len len true) y:=by
     intro arr ra
     obtain ⟨out,ho,ro⟩:=fillA_spec ps qs.toList _ arr cs r ra hcs
     obtain ⟨φ',w',hle,hW',hrun,hφ'⟩:=new_spec (P:=P) hW hp ro
     refine ⟨φ',w',_,hle,hW',?_,_,len,rfl,Nat.le_refl _,⟨Nat.le_refl _,fun _=>rfl⟩,.inr ⟨w.heap.size,0,out.size,hφ',rfl,?_⟩⟩
     · simp only [ho,Sem.run_bind,hrun,Result.andThen_ok,Sem.run_pure]
     · have h1:out.size=cs.length:=by rw [ro.length]; simp
       have h2:cs.length=(zrow z.cells (len * P.cellsOf elem)).length:=by
         clear hp hW' hrun hφ' ho ro
         exact fillA_length ps _ _ hcs
       rw [h1,h2]; simp [zrow]
   by_cases h0:len * P.cellsOf elem=0
   · obtain ⟨φ',w',y,h1,h2,h3,h4⟩:=key ((Array.range (len * P.cellsOf elem)).map ((#[]:Array Value)[· % (#[]:Array Value).size]!)) (by rw [h0]; simp [zrow]; exact rfl)
     refine ⟨φ',w',y,h1,h2,?_,h4⟩
     rw [<-h3]
     have hnl:¬ (len * P.cellsOf elem > 2 ^ 24):=by omega
     simp only [Instr.buildSlice,Sem.run_bind,run_und hu,Result.andThen_ok,run_size hti,if_neg hnl,if_pos h0,Sem.run_pure]
     rfl
   · obtain ⟨φ',w',y,h1,h2,h3,h4⟩:=key _ (zrow_VRs (len * P.cellsOf elem) rz.cells hne)
     refine ⟨φ',w',y,h1,h2,?_,h4⟩
     rw [<-h3]
     have hnl:¬ (len * P.cellsOf elem > 2 ^ 24):=by omega
     simp only [Instr.buildSlice,Sem.run_bind,run_und hu,Result.andThen_ok,run_size hti,if_neg hnl,if_neg h0,run_zero hti hzv,Sem.run_pure]
     rfl
 · cases h
where
 fillA_length:∀ (ps:List (Nat × AV)) {place:Nat->Option (Nat × Nat)} (cs res:List AV),fillA place cs ps=some res->res.length=cs.length
   | [],_,cs,res,h=>by simp only [fillA,Option.some.injEq] at h; rw [h]
   | (i,v)::ps,place,cs,res,h=>by
     simp only [fillA] at h
     split at h
     · cases h
     · split at h
       · cases h
       · rw [fillA_length ps _ _ h,spl_length]
end
end Go.Dv
namespace Go.Dv
def srcA (H:AH) (size:Nat):AV->Option (Nat × (Nat->Option (List AV)))
 | .slice i k es len _ _=>if es=size then some (len,fun n=>if n<=len then rdCells H i k (n * size) else none) else none
 | .nilSlice=>some (0,fun _=>some [])
 | .str s=>if size=1 then some (s.size,fun n=>some ((s.extract 0 n).data.toList.map fun b=>.int .u8 b.toNat)) else none
 | _=>none
def growOk (bytes need:Nat):Bool:=(need+need / 4+600) * bytes<=2 ^ 48 && need < 2 ^ 62
def zerosA (P:Program) (xT:Option TypeId):Bool:=
 match xT with | some t=>(match P.underlying t with | some (.int _)=>true | some _=>false | none=>true) | none=>false
def appendA (P:Program) (slot:Option Nat) (sT:TypeId) (xT:Option TypeId) (s x:AV) (H:AH):Option (AV × AH):=
 if zerosA P xT=true then none else
 (sliceElem P sT).bind fun elem=>(zeroA P elem).bind fun z=>(srcA H (P.cellsOf elem) x).bind fun (n,f)=>(f n).bind fun new =>
   if z.cells.length=P.cellsOf elem/\z.cells≠[] then
     match s with
     | .nilSlice=>if n=0 then some (.nilSlice,H) else
       if growOk (P.bytesOf elem) n=true then (put slot H (.cells new elem)).map fun (i,H')=>(.slice i 0 (P.cellsOf elem) n n false,H') else none
     | .slice i k es len cap ex =>
       if es=P.cellsOf elem then
         if n=0 then some (.slice i k es len cap ex,H) else
         if len+n<=cap then
           if new.all AV.one=true then (wrCells H i (k+len * es) new).map fun H'=>(.slice i k es (len+n) cap ex,H') else none
         else if ex=true then
           if growOk (P.bytesOf elem) (len+n)=true then
             (rdCells H i k (len * es)).bind fun old=>(put slot H (.cells (old++new) elem)).map fun (j,H')=>(.slice j 0 es (len+n) (len+n) false,H')
           else none
         else
           match H[i]? with
           | some (.cells _ e0) =>
             if e0=elem/\new.all AV.one=true/\growOk (P.bytesOf elem) (len+n)=true then
               (rdCells H i k (len * es)).bind fun old=>(put slot (H.set i .dead) (.cells (old++new) elem)).map fun (j,H')=>(.slice j 0 es (len+n) (len+n) false,H')
             else none
           | _=>none
       else none
     | _=>none
   else none
def copyA (P:Program) (dT:TypeId) (d s:AV) (H:AH):Option (AV × AH):=
 (sliceElem P dT).bind fun elem=>(P.info? elem).bind fun _=>(srcA H (P.cellsOf elem) s).bind fun (m,f) =>
   match d with
   | .nilSlice=>some (.int .i64 0,H)
   | .slice i k es len _ _=>if es=P.cellsOf elem then
       (f (Nat.min m len)).bind fun cs=>if Nat.min m len=0 then some (.int .i64 0,H) else (wrCells H i k cs).map fun H'=>(.int .i64 (Nat.min m len),H')
     else none
   | _=>none
section
variable {P:Program} {w0:World} {Pr:Nat->Prop} {φ:Env} {H:AH} {w:World}
theorem makeSliceA_spec (hW:WR w0 Pr φ H w) {slot:Option Nat} {t:TypeId} {l c v:AV} {ul uc:Value} {H':AH} (rl:VR φ l ul) (rc:VR φ c uc)
   (h:makeSliceA P slot t l c H=some (v,H')) :
   ∃ φ' w' y,φ.le φ'/\WR w0 Pr φ' H' w'/\(Instr.makeSlice t ul uc).run P w=.ok y w'/\VR φ' v y:=by
 unfold makeSliceA at h
 split at h
 · rename_i kl l kc c
   simp only [Option.bind_eq_some_iff] at h
   obtain ⟨elem,hel,z,hz,h⟩:=h
   split at h
   · rename_i hc
     obtain ⟨h0,hlc,hc62,hb,hne⟩:=hc
     simp only [Option.map_eq_some_iff] at h
     obtain ⟨⟨i,H1⟩,hp,hv⟩:=h
     cases hv
     simp only [VR] at rl rc
     subst rl; subst rc
     obtain ⟨ti,zv,hti,hzv,rz⟩:=zeroA_spec hz φ
     have hu:=sliceElem_spec hel
     have hbytes:P.bytesOf elem=ti.bytes:=by simp [Program.bytesOf,hti]
     rw [hbytes] at hb
     have e1:IntKind.i64.wrap l=l:=IntWalk.i64_in l (by omega)
     have e2:IntKind.i64.wrap c=c:=IntWalk.i64_in c (by omega)
     have key:∀ arr:Array Value,VRs φ (zrow z.cells (c.toNat * P.cellsOf elem)) arr.toList->∃ φ' w' y,φ.le φ'/\WR w0 Pr φ' H1 w' /\
         ((do let a <-newRow elem arr; pure (.slice (some a) l.toNat c.toNat)):Sem Value).run P w=.ok y w'/\VR φ' (.slice i 0 (P.cellsOf elem) l.toNat c.toNat true) y:=by
       intro arr ra
       obtain ⟨φ',w',hle,hW',hrun,hφ'⟩:=new_spec (P:=P) hW hp ra
       refine ⟨φ',w',_,hle,hW',?_,_,c.toNat,rfl,by omega,⟨Nat.le_refl _,fun _=>rfl⟩,.inr ⟨w.heap.size,0,arr.size,hφ',rfl,?_⟩⟩
       · simp only [Sem.run_bind,hrun,Result.andThen_ok,Sem.run_pure]
       · have:arr.size=(zrow z.cells (c.toNat * P.cellsOf elem)).length:=by rw [ra.length]; simp
         rw [this]; simp [zrow]
     have hnt:¬ ((decide (c < 0) || decide ((ti.bytes:Int) * c > 2 ^ 48))=true∨decide (l < 0)=true):=by simp; omega
     have hlt:¬ (((decide (c < 0) || decide ((ti.bytes:Int) * c > 2 ^ 48)) || decide (l < 0) || decide (l > c))=true):=by simp; omega
     by_cases hn:c.toNat * P.cellsOf elem=0
     · obtain ⟨φ',w',y,h1,h2,h3,h4⟩:=key ((Array.range (c.toNat * P.cellsOf elem)).map ((#[]:Array Value)[· % (#[]:Array Value).size]!)) (by rw [hn]; simp [zrow]; exact rfl)
       refine ⟨φ',w',y,h1,h2,?_,h4⟩
       rw [<-h3]
       simp only [Instr.makeSlice,Sem.run_bind,run_und hu,Result.andThen_ok,asInt,asIntOf,Sem.run_pure,run_info hti,e1,e2,if_neg hlt,run_askRoom,run_size hti,if_pos hn]
     · obtain ⟨φ',w',y,h1,h2,h3,h4⟩:=key _ (zrow_VRs (c.toNat * P.cellsOf elem) rz.cells hne)
       refine ⟨φ',w',y,h1,h2,?_,h4⟩
       rw [<-h3]
       simp only [Instr.makeSlice,Sem.run_bind,run_und hu,Result.andThen_ok,asInt,asIntOf,Sem.run_pure,run_info hti,e1,e2,if_neg hlt,run_askRoom,run_size hti,if_neg hn,run_zero hti hzv]
   · cases h
 · cases h
theorem srcA_len {size:Nat} {x:AV} {u:Value} {n:Nat} {f:Nat->Option (List AV)} (r:VR φ x u) (h:srcA H size x=some (n,f)):(Builtin.lenOf u).run P w=.ok n w:=by
 unfold srcA at h
 split at h
 · split at h
   · cases h; obtain ⟨a,c,rfl,_⟩:=r; rfl
   · cases h
 · cases h; simp only [VR] at r; subst r; rfl
 · split at h
   · cases h; simp only [VR] at r; subst r; rfl
   · cases h
 · cases h
theorem srcA_cells (hW:WR w0 Pr φ H w) {size:Nat} {x:AV} {u:Value} {n m:Nat} {f:Nat->Option (List AV)} {cs:List AV} (r:VR φ x u) (h:srcA H size x=some (n,f)) (hm:m<=n) (hf:f m=some cs) :
   ∃ vs:List Value,VRs φ cs vs/\vs.length=m * size/\(Builtin.firstCells size m u).run P w=.ok vs.toArray w:=by
 unfold srcA at h
 split at h
 · rename_i i k es len cap ex
   split at h
   · rename_i hes
     subst hes
     simp only [Option.some.injEq,Prod.mk.injEq] at h
     obtain ⟨rfl,rfl⟩:=h
     simp only [if_pos hm] at hf
     obtain ⟨a,c,rfl,hlc,hcc,ha⟩:=r
     by_cases hc0:c=0
     · have hm0:m=0:=by omega
       subst hm0
       have hcs:cs=[]:=by
         have hl:cs.length=0:=by
           unfold rdCells at hf
           split at hf
           · split at hf
             · cases hf; simp
             · cases hf
           · split at hf
             · cases hf; simp
             · cases hf
           · cases hf
         exact List.length_eq_zero_iff.1 hl
       subst hcs
       refine ⟨[],rfl,by simp,?_⟩
       simp only [Builtin.firstCells,Nat.zero_mul]
       rfl
     obtain ⟨b,o,z,hφ,rfl,_⟩:=ha.resolve_left hc0
     obtain ⟨vs,rs,hlen,hc⟩:=hW.read hφ hf
     refine ⟨vs,rs,hlen,?_⟩
     simp only [Builtin.firstCells]
     rw [<-hlen]
     refine run_loadCells_list w _ vs fun j v hj=>?_
     rw [add_none]; exact hc j v hj
   · cases h
 · simp only [Option.some.injEq,Prod.mk.injEq] at h
   obtain ⟨rfl,rfl⟩:=h
   simp only [Option.some.injEq] at hf
   subst hf
   simp only [VR] at r; subst r
   exact ⟨[],rfl,by simp at hm; simp [hm],rfl⟩
 · split at h
   · rename_i s hs
     subst hs
     simp only [Option.some.injEq,Prod.mk.injEq] at h
     obtain ⟨rfl,rfl⟩:=h
     simp only [Option.some.injEq] at hf
     subst hf
     simp only [VR] at r; subst r
     refine ⟨(s.extract 0 m).data.toList.map fun b=>.int .u8 b.toNat,?_,?_,?_⟩
     · exact .of_get (by simp) fun j x v hx hv=>by
         simp only [List.getElem?_map] at hx hv
         cases hq:(s.extract 0 m).data.toList[j]? with
         | none=>rw [hq] at hx; cases hx
         | some q=>rw [hq] at hx hv; cases hx; cases hv; rfl
     · simp only [List.length_map,Array.length_toList]
       have:(s.extract 0 m).data.size=(s.extract 0 m).size:=rfl
       rw [this,ByteArray.size_extract]; omega
     · simp only [Builtin.firstCells,Sem.run_pure]
       congr 1
       apply Array.toList_inj.1
       simp [Array.toList_extract,List.extract_eq_take_drop]
   · cases h
 · cases h
end
end Go.Dv
