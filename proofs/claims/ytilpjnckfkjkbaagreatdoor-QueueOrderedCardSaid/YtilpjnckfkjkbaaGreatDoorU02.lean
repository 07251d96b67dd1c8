/- Part 02 of the walks (own work). -/
import Derived.Test.YtilpjnckfkjkbaaGreatDoorU01
import Derived.IntWalk
open Array renaming range→D4,toList_extract→D3
open Bool renaming false_eq_true→bK
open ByteArray renaming size_extract→afc
open List renaming extract_eq_take_drop→zE,getElem?_eq_getElem→aj
open Nat renaming add_assoc→bN,le_refl→aw,min→WU
open Option renaming bind_eq_some_iff→ae,isSome_iff_exists→zp,map_eq_some_iff→ah
open Option.some renaming injEq→aU
set_option maxRecDepth 100000
set_option maxHeartbeats 4000000
set_option linter.unusedSimpArgs false
set_option linter.unusedVariables false
namespace Go.Dv
def Cp (P:Program) (t:TypeId) (cs:List AV) (off:Nat):Option AV:=
 match vd P t with
 | some true=>some (.agg ((cs.drop off).take (P.cellsOf t)))
 | some false=>cs[off]?
 | none=>none
def qc (P:Program) (t:TypeId) (x:AV) (f:Nat):Option AV:=
 match P.underlying t,x with
 | some (.struct fs),.agg cs=>(fs[f]?).bind fun fd=>Cp P fd.type cs fd.offset
 | _,_=>none
def aL (P:Program) (t:TypeId) (x:AV) (f:Nat):Option AV:=
 match P.underlying t,x with
 | some (.struct fs),.ptr i k=>(fs[f]?).bind fun fd=>if P.cellsOf fd.type=0 then none else (P.info? fd.type).map fun _=>.ptr i (k+fd.offset)
 | _,_=>none
def aC (P:Program) (t:TypeId) (x ix:AV):Option AV:=
 match P.underlying t,x,ix with
 | some (.slice elem),.slice i k es len _ _,.int _ n =>
   if 0<=n/\n < len/\P.cellsOf elem=es then (P.info? elem).map fun _=>.ptr i (k+n.toNat * es) else none
 | some (.array len elem),.ptr i k,.int _ n =>
   if 0<=n/\n < len then (P.info? elem).map fun _=>.ptr i (k+n.toNat * P.cellsOf elem) else none
 | _,_,_=>none
section
variable {P:Program} {w0:World} {Pr:Nat->Prop} {φ:Env} {H:AH} {w:World}
theorem si {t:TypeId} {cs:List AV} {us:Array Value} {off:Nat} {v:AV} (r:VRs φ cs us.toList) (h:Cp P t cs off=some v) :
   ∃ u,(∀ w,(part t us off).run P w=.ok u w)/\VR φ v u:=by
 unfold Cp at h;split at h
 · rename_i ha;cases h;obtain ⟨ti,hti⟩:=yB ha;refine ⟨.agg (us.extract off (off+P.cellsOf t)),fun w=>?_,_,rfl,?_⟩
   · simp only [part,Sem.run_bind,qD ha,Result.andThen_ok,if_true,dP hti,Sem.run_pure]
   · have:=(r.drop off).take (P.cellsOf t);simpa [D3,zE] using this
 · rename_i ha;obtain ⟨u,hu,ru⟩:=r.get off v h;refine ⟨u,fun w=>?_,ru⟩;have hu':us[off]? =some u:=by simpa using hu
   simp only [part,Sem.run_bind,qD ha,Result.andThen_ok,bK,if_false,hu',Sem.run_pure]
 · cases h
theorem vX {t:TypeId} {x:AV} {u:Value} {f:Nat} {v:AV} (r:VR φ x u) (h:qc P t x f=some v) :
   ∃ y,(∀ w,(Instr.field t u f).run P w=.ok y w)/\VR φ v y:=by
 unfold qc at h;split at h
 · rename_i fs cs hu;simp only [ae] at h;obtain ⟨fd,hf,hp⟩:=h;obtain ⟨us,rfl,rs⟩:=r;obtain ⟨y,hy,ry⟩:=si (P:=P) rs hp;refine ⟨y,fun w=>?_,ry⟩;simp only [Instr.field,Sem.run_bind,bA hu,Result.andThen_ok,hf,asAgg,Sem.run_pure,hy]
 · cases h
theorem pt {t:TypeId} {x:AV} {u:Value} {f:Nat} {v:AV} (r:VR φ x u) (h:aL P t x f=some v) :
   ∃ y,(∀ w,(Instr.fieldAt t u f).run P w=.ok y w)/\VR φ v y:=by
 unfold aL at h;split at h
 · rename_i fs i k hu;simp only [ae] at h;obtain ⟨fd,hf,hp⟩:=h;split at hp
   · cases hp
   · rename_i hz;simp only [ah] at hp;obtain ⟨ti,hti,rfl⟩:=hp;obtain ⟨b,o,z,hφ,rfl⟩:=r;refine ⟨_,fun w=>?_,b,o,z,hφ,rfl⟩;simp only [Instr.fieldAt,Sem.run_bind,bA hu,Result.andThen_ok,hf,Instr.sureAddr,Sem.run_pure,fieldPlace,dP hti,if_neg hz,Sem.run_ite,jL,bN]
 · cases h
theorem po {t:TypeId} {x ix:AV} {u ui:Value} {v:AV} (r:VR φ x u) (ri:VR φ ix ui) (h:aC P t x ix=some v) :
   ∃ y,(∀ w,(Instr.indexAt t u ui).run P w=.ok y w)/\VR φ v y:=by
 unfold aC at h;split at h
 · rename_i elem i k es len cap ex kk n hu;split at h
   · rename_i hc;obtain ⟨h0,h1,hes⟩:=hc;simp only [ah] at h;obtain ⟨ti,hti,rfl⟩:=h;obtain ⟨a,c,rfl,hlc,hcc,ha⟩:=r;simp only [VR] at ri; subst ri;have hc0:c≠0:=by omega
     obtain ⟨b,o,z,hφ,rfl,hb⟩:=ha.resolve_left hc0;refine ⟨_,fun w=>?_,b,o,z,hφ,rfl⟩;simp only [Instr.indexAt,Sem.run_bind,asIntOf,Sem.run_pure,bA hu,Result.andThen_ok,Bool.and_false,bK,if_false,Sem.run_ite];rw [if_pos ⟨h0,h1⟩];simp [dP hti,jL,hes,bN]
   · cases h
 · rename_i len elem i k kk n hu;split at h
   · rename_i hc;obtain ⟨h0,h1⟩:=hc;simp only [ah] at h;obtain ⟨ti,hti,rfl⟩:=h;obtain ⟨b,o,z,hφ,rfl⟩:=r;simp only [VR] at ri; subst ri;refine ⟨_,fun w=>?_,b,o,z,hφ,rfl⟩;simp only [Instr.indexAt,Sem.run_bind,asIntOf,Sem.run_pure,bA hu,Result.andThen_ok,Instr.sureAddr,Sem.run_ite];rw [if_pos ⟨h0,h1⟩];simp [dP hti,jL,bN]
   · cases h
 · cases h
def iu (d:Nat):Option AV->Option Nat
 | none=>some d
 | some (.int _ n)=>if 0<=n then some n.toNat else none
 | some _=>none
def ko (P:Program) (t:TypeId) (H:AH) (x:AV) (lo hi mx:Option AV):Option AV:=
 match P.underlying t,x with
 | some (.slice elem),.slice i k es len cap ex =>
   match iu 0 lo,iu len hi with
   | some l,some h =>
     match mx with
     | none=>if l<=h/\h<=cap/\P.cellsOf elem=es then (P.info? elem).map fun _=>.slice i (k+l * es) es (h - l) (cap - l) ex else none
     | some m=>match iu 0 (some m) with
       | some m=>if hi.isSome=true/\l<=h/\h<=m/\m<=cap/\P.cellsOf elem=es then (P.info? elem).map fun _=>.slice i (k+l * es) es (h - l) (m - l) true else none
       | none=>none
   | _,_=>none
 | some (.slice elem),.nilSlice =>
   match iu 0 lo,iu 0 hi,mx with
   | some 0,some 0,none=>(P.info? elem).map fun _=>.nilSlice
   | _,_,_=>none
 | some (.array n elem),.ptr i k =>
   match iu 0 lo,iu n hi,mx,H[i]? with
   | some l,some h,none,some (.cells cs _)=>if l<=h/\h<=n/\k+n * P.cellsOf elem<=cs.length then (P.info? elem).map fun _=>.slice i (k+l * P.cellsOf elem) (P.cellsOf elem) (h - l) (n - l) true else none
   | _,_,_,_=>none
 | _,_=>none
end
end Go.Dv
namespace Go.Dv
def OVR (φ:Env):Option AV->Option Value->Prop
 | none,v=>v=none
 | some x,v=>∃ u,v=some u/\VR φ x u
section
variable {P:Program} {w0:World} {Pr:Nat->Prop} {φ:Env} {H:AH} {w:World}
theorem mr {x:AV} {u:Value} {n y:Nat} (r:VR φ x u) (hb:iu 0 (some x)=some n) (hy:n<=y) (code:BoundsCode) :
   (Instr.sliceBound u y code).run P w=.ok n w:=by
 cases x <;> simp only [iu] at hb <;> try (cases hb; done)
 rename_i k i;split at hb
 · rename_i h0;cases hb;simp only [VR] at r; subst r;simp only [Instr.sliceBound,asIntOf,Sem.run_bind,Sem.run_pure,Result.andThen_ok,Sem.run_ite];rw [if_pos ⟨h0,by omega⟩]
 · cases hb
theorem ql (d:Nat) (x:AV):iu d (some x)=iu 0 (some x):=by cases x <;> rfl
theorem sc {isS:Bool} {len cap l h:Nat} {lo hi:Option AV} {lo' hi':Option Value} (rl:OVR φ lo lo') (rh:OVR φ hi hi')
   (hl:iu 0 lo=some l) (hh:iu len hi=some h) (hlh:l<=h) (hc:h<=cap) :
   (Instr.sliceBounds isS len cap lo' hi' none).run P w=.ok (l,h,cap) w:=by
 cases lo with
 | none =>
   cases hl; obtain rfl:=rl;cases hi with
   | none=>cases hh; obtain rfl:=rh; simp [Instr.sliceBounds]
   | some y =>obtain ⟨u,rfl,ru⟩:=rh;rw [ql] at hh;have:=fun code=>mr (P:=P) (w:=w) ru hh hc code;simp [Instr.sliceBounds,this]
 | some x =>
   obtain ⟨v,rfl,rv⟩:=rl;have h1:=fun code=>mr (P:=P) (w:=w) rv hl hlh code;cases hi with
   | none=>cases hh; obtain rfl:=rh; simp [Instr.sliceBounds,h1]
   | some y =>obtain ⟨u,rfl,ru⟩:=rh;rw [ql] at hh;have:=fun code=>mr (P:=P) (w:=w) ru hh hc code;simp [Instr.sliceBounds,this,h1]
theorem xK {isS:Bool} {len cap l h m:Nat} {lo:Option AV} {hi mx:AV} {lo':Option Value} {hi' mx':Value} (rl:OVR φ lo lo') (rh:VR φ hi hi') (rm:VR φ mx mx')
   (hl:iu 0 lo=some l) (hh:iu 0 (some hi)=some h) (hm:iu 0 (some mx)=some m) (hlh:l<=h) (hc:h<=m) (hmc:m<=cap) :
   (Instr.sliceBounds isS len cap lo' (some hi') (some mx')).run P w=.ok (l,h,m) w:=by
 have h2:=fun code=>mr (P:=P) (w:=w) rh hh hc code;have h3:=fun code=>mr (P:=P) (w:=w) rm hm hmc code;cases lo with
 | none=>cases hl; obtain rfl:=rl; simp [Instr.sliceBounds,h2,h3]
 | some x =>obtain ⟨v,rfl,rv⟩:=rl;have h1:=fun code=>mr (P:=P) (w:=w) rv hl hlh code;simp [Instr.sliceBounds,h1,h2,h3]
theorem room (o k l c es z:Nat) (hlc:l<=c) (h:o+k+c * es<=z):o+(k+l * es)+(c - l) * es<=z:=by
 have:l * es+(c - l) * es=c * es:=by rw [<-Nat.add_mul]; congr 1; omega
 omega
theorem Fg {i k es l h c c' cap':Nat} {a:Addr} {ex':Bool} (hcc:c'<=c)
   (ha:c=0∨∃ b o z,φ i=some (b,o,z)/\a=⟨b,o+k,none⟩/\o+k+c * es<=z) (hh:h - l<=cap') (hlc:l<=c') (hcap:cap'<=c' - l/\(ex'=true->c' - l=cap')) :
   VR φ (.slice i (k+l * es) es (h - l) cap' ex') (.slice (some (if c'=l then a else a.add (l * es))) (h - l) (c' - l)):=by
 refine ⟨_,_,rfl,hh,hcap,?_⟩;by_cases e:c'=l
 · left; omega
 · right;obtain ⟨b,o,z,hφ,rfl,hb⟩:=ha.resolve_left (by omega);rw [if_neg e,jL];have:=room o k l c' es z hlc (Nat.le_trans (by have:=Nat.mul_le_mul_right es hcc; omega) hb);exact ⟨b,o,z,hφ,by rw [bN],this⟩
theorem vO (hW:WR w0 Pr φ H w) {t:TypeId} {x:AV} {u:Value} {lo hi mx:Option AV} {lo' hi' mx':Option Value} {v:AV} (r:VR φ x u) (rl:OVR φ lo lo') (rh:OVR φ hi hi') (rm:OVR φ mx mx')
   (hs:ko P t H x lo hi mx=some v):∃ y,(Instr.sliceAt t u lo' hi' mx').run P w=.ok y w/\VR φ v y:=by
 unfold ko at hs;split at hs
 · rename_i elem i k es len cap ex hu;split at hs
   · rename_i l h hl hh;obtain ⟨a,c,rfl,hlc,⟨hcap,hex⟩,ha⟩:=r;split at hs
     · split at hs
       · rename_i hc;obtain ⟨hlh,hhc,hes⟩:=hc;simp only [ah] at hs;obtain ⟨ti,hti,rfl⟩:=hs;obtain rfl:=rm;have hhc':h<=c:=by omega
         refine ⟨_,?_,Fg (aw c) ha (by omega) (by omega) ⟨by omega,fun e=>by have:=hex e; omega⟩⟩
         · simp only [Instr.sliceAt,Instr.slice,Sem.run_bind,bA hu,Result.andThen_ok,sc rl rh hl hh hlh hhc',dP hti,hes,Sem.run_pure];by_cases e:c=l <;> simp [e]
       · cases hs
     · rename_i m;split at hs
       · rename_i m hm;split at hs
         · rename_i hc;obtain ⟨hhi,hlh,hhm,hmc,hes⟩:=hc;simp only [ah] at hs;obtain ⟨ti,hti,rfl⟩:=hs;obtain ⟨um,rfl,rum⟩:=rm;cases hi with
           | none=>cases hhi
           | some xh =>
             obtain ⟨uh,rfl,ruh⟩:=rh;rw [ql] at hh;have hmc':m<=c:=by omega
             refine ⟨_,?_,Fg hmc' ha (by omega) (by omega) ⟨by omega,fun _=>rfl⟩⟩;simp only [Instr.sliceAt,Instr.slice,Sem.run_bind,bA hu,Result.andThen_ok,xK rl ruh rum hl hh hm hlh hhm hmc',dP hti,hes,Sem.run_pure];by_cases e:m=l <;> simp [e]
         · cases hs
       · cases hs
   · cases hs
 · rename_i elem hu;split at hs
   · rename_i hl hh;simp only [ah] at hs;obtain ⟨ti,hti,rfl⟩:=hs;obtain rfl:=rm;simp only [VR] at r; subst r;refine ⟨_,?_,rfl⟩;simp only [Instr.sliceAt,Instr.slice,Sem.run_bind,bA hu,Result.andThen_ok,sc rl rh hl hh (aw 0) (aw 0),dP hti,Sem.run_pure];simp
   · cases hs
 · rename_i n elem i k hu;split at hs
   · rename_i l h cs e' hl hh hi';split at hs
     · rename_i hc;obtain ⟨hlh,hhn,hk⟩:=hc;simp only [ah] at hs;obtain ⟨ti,hti,rfl⟩:=hs;obtain rfl:=rm;obtain ⟨b,o,z,hφ,rfl⟩:=r;obtain ⟨b',o',z',c,hφ',_,_,hlz,_⟩:=hW.obj i _ hi';rw [hφ] at hφ'; cases hφ';refine ⟨_,?_,Fg (aw n) (a:=⟨b,o+k,none⟩) (.inr ⟨b,o,_,hφ,rfl,by omega⟩) (by omega) (by omega) ⟨by omega,fun _=>rfl⟩⟩;simp only [Instr.sliceAt,Sem.run_bind,bA hu,Result.andThen_ok,Instr.sureAddr,sc rl rh hl hh hlh hhn,dP hti,Sem.run_pure]
     · cases hs
   · cases hs
 · cases hs
def tN (place:Nat->Option (Nat × Nat)) (cells:List AV):List (Nat × AV)->Option (List AV)
 | []=>some cells
 | (i,v)::rest =>
   match place i with
   | none=>none
   | some (off,size)=>if v.cells.length≠size∨off+v.cells.length > cells.length then none else tN place (spl cells off v.cells) rest
def PVR (φ:Env):List (Nat × AV)->List (Nat × Value)->Prop
 | [],l=>l=[]
 | (i,x)::xs,l=>∃ u us,l=(i,u)::us/\VR φ x u/\PVR φ xs us
theorem xG:∀ (xs:List AV) (vs:List Value) (cs:List AV) (us:Array Value) (off n:Nat),VRs φ xs vs->VRs φ cs us.toList ->
   VRs φ (spl cs (off+n) xs) ((vs.zipIdx n).foldl (fun cs (c,j)=>cs.setIfInBounds (off+j) c) us).toList
 | [],vs,cs,us,off,n,r,rc=>by rw [show vs=[] from r]; exact rc
 | x::xs,_,cs,us,off,n,⟨v,vs,e,rx,rs⟩,rc=>by
   subst e
   simp only [spl,List.zipIdx_cons,List.foldl_cons]
   have:=xG xs vs (cs.set (off+n) x) (us.setIfInBounds (off+n) v) off (n+1) rs (by simpa using rc.set (off+n) rx)
   exact this
theorem o0 {place:Nat->Option (Nat × Nat)}:∀ (ps:List (Nat × AV)) (qs:List (Nat × Value)) (cs:List AV) (us:Array Value) (res:List AV),PVR φ ps qs->VRs φ cs us.toList ->
   tN place cs ps=some res->∃ out:Array Value,Instr.fill place us qs=some out/\VRs φ res out.toList
 | [],qs,cs,us,res,r,rc,h=>by
   rw [show qs=[] from r]
   simp only [tN,aU] at h; subst h
   exact ⟨us,rfl,rc⟩
 | (i,x)::ps,_,cs,us,res,⟨v,qs,e,rx,rs⟩,rc,h=>by
   subst e
   simp only [tN] at h
   split at h
   · cases h
   · rename_i off size hpl
     split at h
     · cases h
     · rename_i hc
       have hsz:v.cells.size=x.cells.length:=by rw [rx.cells.length]; simp
       have hul:us.size=cs.length:=by rw [rc.length]; simp
       have hcs:=xG x.cells v.cells.toList cs us off 0 rx.cells rc
       rw [Nat.add_zero] at hcs
       obtain ⟨out,ho,ro⟩:=o0 ps qs _ (v.cells.zipIdx.foldl (fun cs (c,j)=>cs.setIfInBounds (off+j) c) us) res rs (by
         rw [<-Array.foldl_toList,Array.toList_zipIdx]; exact hcs) h
       refine ⟨out,?_,ro⟩
       simp only [Instr.fill,hpl]
       rw [if_neg (by simp; omega)]
       exact ho
end
end Go.Dv
namespace Go.Dv
def FZ (P:Program) (t:TypeId):Option (Nat->Option (Nat × Nat)):=
 match P.underlying t with
 | some (.struct fs)=>if fs.toList.all (fun f=>(P.info? f.type).isSome)=true then some fun i=>(fs[i]?).map fun f=>(f.offset,P.cellsOf f.type) else none
 | some (.array _ elem)=>(P.info? elem).map fun _=>fun i=>some (i * P.cellsOf elem,P.cellsOf elem)
 | _=>none
def iV (P:Program) (t:TypeId) (ps:List (Nat × AV)):Option AV:=
 (d8 P t).bind fun z=>(FZ P t).bind fun pl=>(tN pl z.cells ps).map .agg
def ly (zs:List AV) (n:Nat):List AV:=(List.range n).map fun j=>zs.getD (j % zs.length) uA
def gh (P:Program) (t:TypeId):Option TypeId:=
 match P.underlying t with
 | some (.slice e)=>some e
 | _=>none
def bn (P:Program) (slot:Option Nat) (t:TypeId) (len:Nat) (ps:List (Nat × AV)) (H:AH):Option (AV × AH):=
 (gh P t).bind fun elem=>(d8 P elem).bind fun z =>
   if len * P.cellsOf elem<=2 ^ 24/\z.cells≠[] then
     (tN (fun i=>some (i * P.cellsOf elem,P.cellsOf elem)) (ly z.cells (len * P.cellsOf elem)) ps).bind fun cs =>
       (put slot H (.cells cs elem)).map fun (i,H')=>(.slice i 0 (P.cellsOf elem) len len true,H')
   else none
def fN (P:Program) (slot:Option Nat) (t:TypeId) (l c:AV) (H:AH):Option (AV × AH):=
 match l,c with
 | .int _ l,.int _ c =>
   (gh P t).bind fun elem=>(d8 P elem).bind fun z =>
     if 0<=l/\l<=c/\c < 2 ^ 62/\P.bytesOf elem * c<=2 ^ 48/\z.cells≠[] then
       (put slot H (.cells (ly z.cells (c.toNat * P.cellsOf elem)) elem)).map fun (i,H')=>(.slice i 0 (P.cellsOf elem) l.toNat c.toNat true,H')
     else none
 | _,_=>none
section
variable {P:Program} {w0:World} {Pr:Nat->Prop} {φ:Env} {H:AH} {w:World}
theorem pj:∀ (fs:List Field),(fs.all fun f=>(P.info? f.type).isSome)=true ->
   (fs.mapM fun (f:Field)=>do pure (f.offset,<-sizeOf f.type):Sem (List (Nat × Nat))).run P w=.ok (fs.map fun f=>(f.offset,P.cellsOf f.type)) w
 | [],_=>rfl
 | f::fs,h=>by
   simp only [List.all_cons,Bool.and_eq_true] at h
   obtain ⟨ti,hti⟩:=zp.1 h.1
   have ih:=pj fs h.2
   simp only [List.mapM_cons,Sem.run_bind,dP hti,Result.andThen_ok,Sem.run_pure,ih,List.map_cons]
theorem Dd {t:TypeId} {ps:List (Nat × AV)} {qs:Array (Nat × Value)} {v:AV} (r:PVR φ ps qs.toList) (h:iV P t ps=some v) :
   ∃ y,(Instr.build t qs).run P w=.ok y w/\VR φ v y:=by
 simp only [iV,ae,ah] at h;obtain ⟨z,hz,pl,hpl,cs,hcs,rfl⟩:=h;obtain ⟨ti,zv,hti,hzv,rz⟩:=iE hz φ;unfold FZ at hpl;split at hpl
 · rename_i fs hu;split at hpl
   · rename_i hall;cases hpl;obtain ⟨out,ho,ro⟩:=o0 (place:=fun i=>(fs[i]?).map fun f=>(f.offset,P.cellsOf f.type)) ps qs.toList _ zv.cells cs r rz.cells hcs;refine ⟨.agg out,?_,out,rfl,ro⟩;have hm:=pj (P:=P) (w:=w) fs.toList hall;have hg:(fun (i:Nat)=>(fs.toList.map fun (f:Field)=>(f.offset,P.cellsOf f.type)).toArray[i]?)=fun (i:Nat)=>(fs[i]?).map fun (f:Field)=>(f.offset,P.cellsOf f.type):=by funext i; simp
     simp only [Instr.build,Sem.run_bind,jj hti hzv,Result.andThen_ok,bA hu,Array.mapM_eq_mapM_toList,Sem.run_map,hm,hg,ho,Sem.run_pure]
   · cases hpl
 · rename_i n elem hu;simp only [ah] at hpl;obtain ⟨ei,hei,rfl⟩:=hpl;obtain ⟨out,ho,ro⟩:=o0 (place:=fun i=>some (i * P.cellsOf elem,P.cellsOf elem)) ps qs.toList _ zv.cells cs r rz.cells hcs;refine ⟨.agg out,?_,out,rfl,ro⟩;simp only [Instr.build,Sem.run_bind,jj hti hzv,Result.andThen_ok,bA hu,dP hei,ho,Sem.run_pure]
 · cases hpl
theorem xu {zs:List AV} {us:Array Value} (n:Nat) (r:VRs φ zs us.toList) (hne:zs≠[]) :
   VRs φ (ly zs n) ((D4 n).map (us[· % us.size]!)).toList:=by
 have hlen:zs.length=us.size:=by simpa using r.length
 have hpos:0 < zs.length:=by cases zs with | nil=>exact absurd rfl hne | cons=>simp
 refine .sk (by simp [ly]) fun j x v hx hv=>?_;have hj:j < n:=by simpa [ly] using aI hx
 have hm:j % zs.length < zs.length:=Nat.mod_lt _ hpos;have hx':x=zs[j % zs.length]:=by simp [ly,hj,List.getD,aj hm] at hx; exact hx.symm
 obtain ⟨u,hu,ru⟩:=r.get (j % zs.length) _ (aj hm);have hv':v=us[j % us.size]!:=by simp [hj] at hv; exact hv.symm
 rw [hx',hv',<-hlen];have:us[j % zs.length]! =u:=by
   have h':us[j % zs.length]? =some u:=by simpa using hu
   rw [getElem!_def,h']
 rw [this]; exact ru
theorem ji {t e:TypeId} (h:gh P t=some e):P.underlying t=some (.slice e):=by
 unfold gh at h;split at h
 · rename_i hu; cases h; exact hu
 · cases h
theorem vy (hW:WR w0 Pr φ H w) {slot:Option Nat} {t:TypeId} {len:Nat} {ps:List (Nat × AV)} {qs:Array (Nat × Value)} {v:AV} {H':AH} (r:PVR φ ps qs.toList)
   (h:bn P slot t len ps H=some (v,H')) :
   ∃ φ' w' y,φ.le φ'/\WR w0 Pr φ' H' w'/\(Instr.buildSlice t len qs).run P w=.ok y w'/\VR φ' v y:=by
 simp only [bn,ae] at h;obtain ⟨elem,hel,z,hz,h⟩:=h;split at h
 · rename_i hc;obtain ⟨hlim,hne⟩:=hc;simp only [ae,ah] at h;obtain ⟨cs,hcs,⟨i,H1⟩,hp,hv⟩:=h;cases hv;obtain ⟨ti,zv,hti,hzv,rz⟩:=iE hz φ;have hu:=ji hel;have key:∀ arr:Array Value,VRs φ (ly z.cells (len * P.cellsOf elem)) arr.toList->∃ φ' w' y,φ.le φ'/\WR w0 Pr φ' H1 w' /\
       ((do let some cells:=Instr.fill (fun i=>some (i * P.cellsOf elem,P.cellsOf elem)) arr qs.toList | stuck "buildSlice: a part of the wrong size"
            pure (.slice (some (<-newRow elem cells)) len len)):Sem Value).run P w=.ok y w'/\VR φ' (.slice i 0 (P.cellsOf elem) len len true) y:=by
     intro arr ra
     obtain ⟨out,ho,ro⟩:=o0 ps qs.toList _ arr cs r ra hcs
     obtain ⟨φ',w',hle,hW',hrun,hφ'⟩:=tj (P:=P) hW hp ro
     refine ⟨φ',w',_,hle,hW',?_,_,len,rfl,aw _,⟨aw _,fun _=>rfl⟩,.inr ⟨w.heap.size,0,out.size,hφ',rfl,?_⟩⟩
     · simp only [ho,Sem.run_bind,hrun,Result.andThen_ok,Sem.run_pure]
     · have h1:out.size=cs.length:=by rw [ro.length]; simp
       have h2:cs.length=(ly z.cells (len * P.cellsOf elem)).length:=by
         clear hp hW' hrun hφ' ho ro
         exact fillA_length ps _ _ hcs
       rw [h1,h2]; simp [ly]
   by_cases h0:len * P.cellsOf elem=0
   · obtain ⟨φ',w',y,h1,h2,h3,h4⟩:=key ((D4 (len * P.cellsOf elem)).map ((#[]:Array Value)[· % (#[]:Array Value).size]!)) (by rw [h0]; simp [ly]; exact rfl);refine ⟨φ',w',y,h1,h2,?_,h4⟩;rw [<-h3];have hnl:¬ (len * P.cellsOf elem > 2 ^ 24):=by omega
     simp only [Instr.buildSlice,Sem.run_bind,bA hu,Result.andThen_ok,dP hti,if_neg hnl,if_pos h0,Sem.run_pure];rfl
   · obtain ⟨φ',w',y,h1,h2,h3,h4⟩:=key _ (xu (len * P.cellsOf elem) rz.cells hne);refine ⟨φ',w',y,h1,h2,?_,h4⟩;rw [<-h3];have hnl:¬ (len * P.cellsOf elem > 2 ^ 24):=by omega
     simp only [Instr.buildSlice,Sem.run_bind,bA hu,Result.andThen_ok,dP hti,if_neg hnl,if_neg h0,jj hti hzv,Sem.run_pure];rfl
 · cases h
where
 fillA_length:∀ (ps:List (Nat × AV)) {place:Nat->Option (Nat × Nat)} (cs res:List AV),tN place cs ps=some res->res.length=cs.length
   | [],_,cs,res,h=>by simp only [tN,aU] at h; rw [h]
   | (i,v)::ps,place,cs,res,h=>by
     simp only [tN] at h
     split at h
     · cases h
     · split at h
       · cases h
       · rw [fillA_length ps _ _ h,gr]
end
end Go.Dv
namespace Go.Dv
def pL (H:AH) (size:Nat):AV->Option (Nat × (Nat->Option (List AV)))
 | .slice i k es len _ _=>if es=size then some (len,fun n=>if n<=len then ak H i k (n * size) else none) else none
 | .nilSlice=>some (0,fun _=>some [])
 | .str s=>if size=1 then some (s.size,fun n=>some ((s.extract 0 n).data.toList.map fun b=>.int .u8 b.toNat)) else none
 | _=>none
def gf (bytes need:Nat):Bool:=(2 * need+400) * bytes<=2 ^ 48 && need < 2 ^ 62
def sa (P:Program) (xT:Option TypeId):Bool:=
 match xT with | some t=>(match P.underlying t with | some (.int _)=>true | some _=>false | none=>true) | none=>false
def fV (P:Program) (slot:Option Nat) (sT:TypeId) (xT:Option TypeId) (s x:AV) (H:AH):Option (AV × AH):=
 if sa P xT=true then none else
 (gh P sT).bind fun elem=>(d8 P elem).bind fun z=>(pL H (P.cellsOf elem) x).bind fun (n,f)=>(f n).bind fun new =>
   if z.cells.length=P.cellsOf elem/\z.cells≠[] then
     match s with
     | .nilSlice=>if n=0 then some (.nilSlice,H) else
       if gf (P.bytesOf elem) n=true then (put slot H (.cells new elem)).map fun (i,H')=>(.slice i 0 (P.cellsOf elem) n n false,H') else none
     | .slice i k es len cap ex =>
       if es=P.cellsOf elem then
         if n=0 then some (.slice i k es len cap ex,H) else
         if len+n<=cap then
           if new.all AV.one=true then (bj H i (k+len * es) new).map fun H'=>(.slice i k es (len+n) cap ex,H') else none
         else if ex=true then
           if gf (P.bytesOf elem) (len+n)=true then
             (ak H i k (len * es)).bind fun old=>(put slot H (.cells (old++new) elem)).map fun (j,H')=>(.slice j 0 es (len+n) (len+n) false,H')
           else none
         else
           match H[i]? with
           | some (.cells _ e0) =>
             if e0=elem/\new.all AV.one=true/\gf (P.bytesOf elem) (len+n)=true then
               (ak H i k (len * es)).bind fun old=>(put slot (H.set i .dead) (.cells (old++new) elem)).map fun (j,H')=>(.slice j 0 es (len+n) (len+n) false,H')
             else none
           | _=>none
       else none
     | _=>none
   else none
def yT (P:Program) (dT:TypeId) (d s:AV) (H:AH):Option (AV × AH):=
 (gh P dT).bind fun elem=>(P.info? elem).bind fun _=>(pL H (P.cellsOf elem) s).bind fun (m,f) =>
   match d with
   | .nilSlice=>some (.int .i64 0,H)
   | .slice i k es len _ _=>if es=P.cellsOf elem then
       (f (WU m len)).bind fun cs=>if WU m len=0 then some (.int .i64 0,H) else (bj H i k cs).map fun H'=>(.int .i64 (WU m len),H')
     else none
   | _=>none
section
variable {P:Program} {w0:World} {Pr:Nat->Prop} {φ:Env} {H:AH} {w:World}
theorem wq (hW:WR w0 Pr φ H w) {slot:Option Nat} {t:TypeId} {l c v:AV} {ul uc:Value} {H':AH} (rl:VR φ l ul) (rc:VR φ c uc)
   (h:fN P slot t l c H=some (v,H')) :
   ∃ φ' w' y,φ.le φ'/\WR w0 Pr φ' H' w'/\(Instr.makeSlice t ul uc).run P w=.ok y w'/\VR φ' v y:=by
 unfold fN at h;split at h
 · rename_i kl l kc c;simp only [ae] at h;obtain ⟨elem,hel,z,hz,h⟩:=h;split at h
   · rename_i hc;obtain ⟨h0,hlc,hc62,hb,hne⟩:=hc;simp only [ah] at h;obtain ⟨⟨i,H1⟩,hp,hv⟩:=h;cases hv;simp only [VR] at rl rc;subst rl; subst rc;obtain ⟨ti,zv,hti,hzv,rz⟩:=iE hz φ;have hu:=ji hel;have hbytes:P.bytesOf elem=ti.bytes:=by simp [Program.bytesOf,hti]
     rw [hbytes] at hb;have e1:IntKind.i64.wrap l=l:=IntWalk.i64_in l (by omega);have e2:IntKind.i64.wrap c=c:=IntWalk.i64_in c (by omega);have key:∀ arr:Array Value,VRs φ (ly z.cells (c.toNat * P.cellsOf elem)) arr.toList->∃ φ' w' y,φ.le φ'/\WR w0 Pr φ' H1 w' /\
         ((do let a <-newRow elem arr; pure (.slice (some a) l.toNat c.toNat)):Sem Value).run P w=.ok y w'/\VR φ' (.slice i 0 (P.cellsOf elem) l.toNat c.toNat true) y:=by
       intro arr ra
       obtain ⟨φ',w',hle,hW',hrun,hφ'⟩:=tj (P:=P) hW hp ra
       refine ⟨φ',w',_,hle,hW',?_,_,c.toNat,rfl,by omega,⟨aw _,fun _=>rfl⟩,.inr ⟨w.heap.size,0,arr.size,hφ',rfl,?_⟩⟩
       · simp only [Sem.run_bind,hrun,Result.andThen_ok,Sem.run_pure]
       · have:arr.size=(ly z.cells (c.toNat * P.cellsOf elem)).length:=by rw [ra.length]; simp
         rw [this]; simp [ly]
     have hnt:¬ ((decide (c < 0) || decide ((ti.bytes:Int) * c > 2 ^ 48))=true∨decide (l < 0)=true):=by simp; omega
     have hlt:¬ (((decide (c < 0) || decide ((ti.bytes:Int) * c > 2 ^ 48)) || decide (l < 0) || decide (l > c))=true):=by simp; omega
     by_cases hn:c.toNat * P.cellsOf elem=0
     · obtain ⟨φ',w',y,h1,h2,h3,h4⟩:=key ((D4 (c.toNat * P.cellsOf elem)).map ((#[]:Array Value)[· % (#[]:Array Value).size]!)) (by rw [hn]; simp [ly]; exact rfl);refine ⟨φ',w',y,h1,h2,?_,h4⟩;rw [<-h3];simp only [Instr.makeSlice,Sem.run_bind,bA hu,Result.andThen_ok,asInt,asIntOf,Sem.run_pure,pP hti,e1,e2,if_neg hlt,run_askRoom,dP hti,if_pos hn]
     · obtain ⟨φ',w',y,h1,h2,h3,h4⟩:=key _ (xu (c.toNat * P.cellsOf elem) rz.cells hne);refine ⟨φ',w',y,h1,h2,?_,h4⟩;rw [<-h3];simp only [Instr.makeSlice,Sem.run_bind,bA hu,Result.andThen_ok,asInt,asIntOf,Sem.run_pure,pP hti,e1,e2,if_neg hlt,run_askRoom,dP hti,if_neg hn,jj hti hzv]
   · cases h
 · cases h
theorem BZ {size:Nat} {x:AV} {u:Value} {n:Nat} {f:Nat->Option (List AV)} (r:VR φ x u) (h:pL H size x=some (n,f)):(Builtin.lenOf u).run P w=.ok n w:=by
 unfold pL at h;split at h
 · split at h
   · cases h; obtain ⟨a,c,rfl,_⟩:=r; rfl
   · cases h
 · cases h; simp only [VR] at r; subst r; rfl
 · split at h
   · cases h; simp only [VR] at r; subst r; rfl
   · cases h
 · cases h
theorem oG (hW:WR w0 Pr φ H w) {size:Nat} {x:AV} {u:Value} {n m:Nat} {f:Nat->Option (List AV)} {cs:List AV} (r:VR φ x u) (h:pL H size x=some (n,f)) (hm:m<=n) (hf:f m=some cs) :
   ∃ vs:List Value,VRs φ cs vs/\vs.length=m * size/\(Builtin.firstCells size m u).run P w=.ok vs.toArray w:=by
 unfold pL at h;split at h
 · rename_i i k es len cap ex;split at h
   · rename_i hes;subst hes;simp only [aU,Prod.mk.injEq] at h;obtain ⟨rfl,rfl⟩:=h;simp only [if_pos hm] at hf;obtain ⟨a,c,rfl,hlc,hcc,ha⟩:=r;by_cases hc0:c=0
     · have hm0:m=0:=by omega
       subst hm0;have hcs:cs=[]:=by
         have hl:cs.length=0:=by
           unfold ak at hf;split at hf
           · split at hf
             · cases hf; simp
             · cases hf
           · split at hf
             · cases hf; simp
             · cases hf
           · cases hf
         exact List.length_eq_zero_iff.1 hl
       subst hcs;refine ⟨[],rfl,by simp,?_⟩;simp only [Builtin.firstCells,Nat.zero_mul];rfl
     obtain ⟨b,o,z,hφ,rfl,_⟩:=ha.resolve_left hc0;obtain ⟨vs,rs,hlen,hc⟩:=hW.read hφ hf;refine ⟨vs,rs,hlen,?_⟩;simp only [Builtin.firstCells];rw [<-hlen];refine run_loadCells_list w _ vs fun j v hj=>?_;rw [jL]; exact hc j v hj
   · cases h
 · simp only [aU,Prod.mk.injEq] at h;obtain ⟨rfl,rfl⟩:=h;simp only [aU] at hf;subst hf;simp only [VR] at r; subst r;exact ⟨[],rfl,by simp at hm; simp [hm],rfl⟩
 · split at h
   · rename_i s hs;subst hs;simp only [aU,Prod.mk.injEq] at h;obtain ⟨rfl,rfl⟩:=h;simp only [aU] at hf;subst hf;simp only [VR] at r; subst r;refine ⟨(s.extract 0 m).data.toList.map fun b=>.int .u8 b.toNat,?_,?_,?_⟩
     · exact .sk (by simp) fun j x v hx hv=>by
         simp only [List.getElem?_map] at hx hv;cases hq:(s.extract 0 m).data.toList[j]? with
         | none=>rw [hq] at hx; cases hx
         | some q=>rw [hq] at hx hv; cases hx; cases hv; rfl
     · simp only [List.length_map,Array.length_toList];have:(s.extract 0 m).data.size=(s.extract 0 m).size:=rfl;rw [this,afc]; omega
     · simp only [Builtin.firstCells,Sem.run_pure];congr 1;apply Array.toList_inj.1;simp [D3,zE]
   · cases h
 · cases h
end
end Go.Dv
