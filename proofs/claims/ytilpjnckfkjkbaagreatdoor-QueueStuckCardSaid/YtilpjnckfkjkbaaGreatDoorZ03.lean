/- Part 03 of the walks (own work). -/
import Derived.Test.YtilpjnckfkjkbaaGreatDoorZ02
import Derived.Laws.StructEq
set_option maxRecDepth 100000
set_option maxHeartbeats 4000000
set_option linter.unusedSimpArgs false
set_option linter.unusedVariables false
namespace Go.Dv
theorem growBy_le (need:Nat):∀ (r c:Nat),Builtin.growBy need r c<=max c (need+(need+768) / 4)
 | 0,c=>by simp only [Builtin.growBy]; omega
 | r+1,c=>by
   simp only [Builtin.growBy]
   split
   · omega
   · have:=growBy_le need r (c+(c+768) / 4)
     omega
theorem next_le {need c:Nat} (h:c < need):Builtin.nextslicecap need c<=need+need / 4+600:=by
 unfold Builtin.nextslicecap
 split
 · omega
 · split
   · omega
   · have:=growBy_le need 4 c; omega
section
variable {P:Program} {w0:World} {Pr:Nat->Prop} {φ:Env} {H:AH} {w:World}
theorem zeros_cases {xT:Option TypeId} (h:zerosA P xT=false):xT=none∨∃ t d,xT=some t/\P.underlying t=some d/\∀ k,d≠.int k:=by
 cases xT with
 | none=>exact .inl rfl
 | some t =>
   unfold zerosA at h
   simp only at h
   split at h
   · cases h
   · rename_i d hd hu
     exact .inr ⟨t,d,rfl,hu,hd⟩
   · cases h
theorem run_append_room {sT elem:TypeId} {xT:Option TypeId} {argTypes:Array TypeId} {args:Array Value} {ty:TypeId} {base:Option Addr} {sLen sCap n:Nat} {x:Value} {ti:TypeInfo} {new:List Value} {w':World}
   (h0:argTypes[0]? =some sT) (h1:argTypes[1]? =xT) (ha0:args[0]? =some (.slice base sLen sCap)) (ha1:args[1]? =some x) (hu:P.underlying sT=some (.slice elem)) (hti:P.info? elem=some ti)
   (hz:zerosA P xT=false) (hn:(Builtin.lenOf x).run P w=.ok n w) (hnew:(Builtin.firstCells (P.cellsOf elem) n x).run P w=.ok new.toArray w) (hroom:sLen+n<=sCap)
   (hst:match base with | some a=>(storeCells (a.add (sLen * P.cellsOf elem)) new).run P w=.ok () w' | none=>w'=w) :
   (Builtin.append_ argTypes ty args).run P w=.ok (.slice base (sLen+n) sCap) w':=by
 rcases zeros_cases hz with rfl | ⟨t,d,rfl,hd,hdm⟩
 · cases base with
   | none =>
     subst hst
     simp only [Builtin.append_,h0,h1,ha0,ha1,Sem.run_bind,run_und hu,Result.andThen_ok,run_size hti,Bool.false_eq_true,if_false,hn,Sem.run_ite,if_pos hroom,Bool.not_false,if_true,hnew,Sem.run_pure]
   | some a =>
     simp only at hst
     simp only [Builtin.append_,h0,h1,ha0,ha1,Sem.run_bind,run_und hu,Result.andThen_ok,run_size hti,Bool.false_eq_true,if_false,hn,Sem.run_ite,if_pos hroom,Bool.not_false,if_true,hnew,hst,Sem.run_pure]
 · cases base with
   | none =>
     subst hst
     simp only [Builtin.append_,h0,h1,ha0,ha1,Sem.run_bind,run_und hu,run_und hd,Result.andThen_ok,run_size hti,Bool.false_eq_true,if_false,hn,Sem.run_ite,if_pos hroom,Bool.not_false,if_true,hnew,Sem.run_pure]
   | some a =>
     simp only at hst
     simp only [Builtin.append_,h0,h1,ha0,ha1,Sem.run_bind,run_und hu,run_und hd,Result.andThen_ok,run_size hti,Bool.false_eq_true,if_false,hn,Sem.run_ite,if_pos hroom,Bool.not_false,if_true,hnew,hst,Sem.run_pure]
theorem run_append_grow {sT elem:TypeId} {xT:Option TypeId} {argTypes:Array TypeId} {args:Array Value} {ty:TypeId} {base:Option Addr} {sLen sCap n:Nat} {x zv:Value} {ti:TypeInfo} {old new:List Value}
   (h0:argTypes[0]? =some sT) (h1:argTypes[1]? =xT) (ha0:args[0]? =some (.slice base sLen sCap)) (ha1:args[1]? =some x) (hu:P.underlying sT=some (.slice elem)) (hti:P.info? elem=some ti) (hzv:ti.zero=some zv)
   (hz:zerosA P xT=false) (hn:(Builtin.lenOf x).run P w=.ok n w)
   (hold:(Builtin.firstCells (P.cellsOf elem) sLen (.slice base sLen sCap)).run P { w with drawn:=w.drawn+1 }=.ok old.toArray { w with drawn:=w.drawn+1 })
   (hnew:(Builtin.firstCells (P.cellsOf elem) n x).run P { w with drawn:=w.drawn+1 }=.ok new.toArray { w with drawn:=w.drawn+1 })
   (hroom:¬ sLen+n<=sCap) (hg:growOk (P.bytesOf elem) (sLen+n)=true) :
   ∃ newCap,sLen+n<=newCap/\(Builtin.append_ argTypes ty args).run P w =
     (((newRow elem (old.toArray++new.toArray++Builtin.zeroCells zv.cells (newCap - (sLen+n)))).run P { w with drawn:=w.drawn+1 }).andThen fun a w'=>.ok (.slice (some a) (sLen+n) newCap) w'):=by
 simp only [growOk,Bool.and_eq_true,decide_eq_true_eq] at hg
 have hbytes:P.bytesOf elem=ti.bytes:=by simp [Program.bytesOf,hti]
 rw [hbytes] at hg
 have hb:¬ (Builtin.nextslicecap (sLen+n) sCap * ti.bytes > 2 ^ 48):=by
   have h2:=next_le (need:=sLen+n) (c:=sCap) (by omega)
   have h3:=Nat.mul_le_mul_right ti.bytes h2
   have:=hg.1
   omega
 have hmax:¬ (((sLen+n:Nat):Int) > IntKind.i64.max):=by
   have:IntKind.i64.max=9223372036854775807:=by decide
   rw [this]; have:=hg.2; omega
 refine ⟨(Question.appendCap (sLen+n) sCap elem).cut (w.tape w.drawn (.appendCap (sLen+n) sCap elem)),by simp [Question.cut],?_⟩
 rcases zeros_cases hz with rfl | ⟨t,d,rfl,hd,hdm⟩
 · simp only [Builtin.append_,h0,h1,ha0,ha1,Sem.run_bind,run_und hu,Result.andThen_ok,run_size hti,Bool.false_eq_true,if_false,hn,Sem.run_ite,if_neg hroom,Bool.not_false,if_true,run_info hti,hmax,false_and,if_neg hb,run_choose,
     Question.forced,run_askRoom,hold,hnew,run_zero hti hzv,Sem.run_pure]
 · simp only [Builtin.append_,h0,h1,ha0,ha1,Sem.run_bind,run_und hu,run_und hd,Result.andThen_ok,run_size hti,Bool.false_eq_true,if_false,hn,Sem.run_ite,if_neg hroom,Bool.not_false,if_true,run_info hti,hmax,false_and,if_neg hb,run_choose,
     Question.forced,run_askRoom,hold,hnew,run_zero hti hzv,Sem.run_pure]
theorem zeroCells_size (z:Array Value) (n:Nat):(Builtin.zeroCells z n).size=n * z.size:=by simp [Builtin.zeroCells]
theorem appendA_spec (hW:WR w0 Pr φ H w) {slot:Option Nat} {sT:TypeId} {xT:Option TypeId} {argTypes:Array TypeId} {args:Array Value} {ty:TypeId} {s x v:AV} {us ux:Value} {H':AH}
   (h0:argTypes[0]? =some sT) (h1:argTypes[1]? =xT) (ha0:args[0]? =some us) (ha1:args[1]? =some ux) (rs:VR φ s us) (rx:VR φ x ux) (h:appendA P slot sT xT s x H=some (v,H')) :
   ∃ φ' w' y,φ.le φ'/\WR w0 Pr φ' H' w'/\(Builtin.append_ argTypes ty args).run P w=.ok y w'/\VR φ' v y:=by
 unfold appendA at h
 split at h
 · cases h
 rename_i hz
 have hz':zerosA P xT=false:=by simpa using hz
 simp only [Option.bind_eq_some_iff] at h
 obtain ⟨elem,hel,z,hzA,⟨n,f⟩,hsrc,new,hnew,h⟩:=h
 have hu:=sliceElem_spec hel
 obtain ⟨ti,zv,hti,hzv,rz⟩:=zeroA_spec hzA φ
 have hlen:=srcA_len (P:=P) (w:=w) rx hsrc
 obtain ⟨nvs,rnew,hnl,hnrun⟩:=srcA_cells (P:=P) hW rx hsrc (Nat.le_refl n) hnew
 have hWd:=hW.drew (w.drawn+1)
 obtain ⟨nvs',rnew',hnl',hnrun'⟩:=srcA_cells (P:=P) hWd rx hsrc (Nat.le_refl n) hnew
 have hnl2:new.length=n * P.cellsOf elem:=by rw [rnew.length]; exact hnl
 split at h
 case isFalse=>cases h
 rename_i hzl
 have hzs:zv.cells.size=P.cellsOf elem:=by have:=rz.cells.length; rw [hzl.1] at this; simpa using this.symm
 have grow:∀ (H1:AH) (base:Option Addr) (sLen sCap:Nat) (old:List AV) (ovs:List Value) (j:Nat) (H2:AH),us=.slice base sLen sCap->WR w0 Pr φ H1 { w with drawn:=w.drawn+1 }->VRs φ old ovs->ovs.length=sLen * P.cellsOf elem ->
     (Builtin.firstCells (P.cellsOf elem) sLen us).run P { w with drawn:=w.drawn+1 }=.ok ovs.toArray { w with drawn:=w.drawn+1 }->¬ sLen+n<=sCap->growOk (P.bytesOf elem) (sLen+n)=true ->
     put slot H1 (.cells (old++new) elem)=some (j,H2) ->
     ∃ φ' w' y,φ.le φ'/\WR w0 Pr φ' H2 w'/\(Builtin.append_ argTypes ty args).run P w=.ok y w'/\VR φ' (.slice j 0 (P.cellsOf elem) (sLen+n) (sLen+n) false) y:=by
   intro H1 base sLen sCap old ovs j H2 hus hW1 rold hol hrun hroom hg hp
   subst hus
   obtain ⟨newCap,hnc,happ⟩:=run_append_grow (P:=P) (w:=w) (ty:=ty) h0 h1 ha0 ha1 hu hti hzv hz' hlen hrun hnrun' hroom hg
   have hn:=(put_spec hW1 hp).1
   have hsz:(ovs.toArray++nvs'.toArray++Builtin.zeroCells zv.cells (newCap - (sLen+n))).size=newCap * P.cellsOf elem:=by
     simp only [Array.size_append,List.size_toArray,zeroCells_size,hol,hnl',hzs]
     rw [<-Nat.add_mul,<-Nat.add_mul]; congr 1; omega
   obtain ⟨hle,hW2⟩:=hW1.alloc hp (.cells (ovs.toArray++nvs'.toArray++Builtin.zeroCells zv.cells (newCap - (sLen+n))) elem) (newCap * P.cellsOf elem)
     ⟨w.heap.size,0,newCap * P.cellsOf elem,_,Env.set_self _ _ _,by simp,hsz,by
       simp only [List.length_append,hnl2,rold.length,hol]
       rw [Nat.zero_add,<-Nat.add_mul]; exact Nat.mul_le_mul_right _ hnc,fun k y hk=>by
       obtain ⟨u,hu',ru⟩:=(rold.append rnew').get k y hk
       refine ⟨u,?_,ru.mono (Env.le_set _ hn)⟩
       have hkl:=lt_of_get hu'
       rw [Nat.zero_add,Array.getElem?_append_left (by simpa using hkl)]
       simpa using hu'⟩ rfl
   refine ⟨_,_,_,hle,hW2,?_,⟨w.heap.size,0,none⟩,newCap,rfl,Nat.le_refl _,⟨hnc,fun e=>(by cases e)⟩,.inr ⟨w.heap.size,0,newCap * P.cellsOf elem,Env.set_self _ _ _,rfl,by omega⟩⟩
   rw [happ]
   rfl
 split at h
 ·
   simp only [VR] at rs; subst rs
   split at h
   · rename_i hn0
     cases h
     subst hn0
     refine ⟨φ,w,_,Env.le_refl φ,hW,run_append_room (base:=none) (sLen:=0) (sCap:=0) (n:=0) (w':=w) h0 h1 ha0 ha1 hu hti hz' hlen hnrun (Nat.le_refl 0) rfl,rfl⟩
   · rename_i hn0
     split at h
     · rename_i hg
       simp only [Option.map_eq_some_iff] at h
       obtain ⟨⟨j,H2⟩,hp,hv⟩:=h
       cases hv
       have:=grow H none 0 0 [] [] j H2 rfl hWd (.nil φ) (by simp) rfl (by omega) (by simpa using hg) (by simpa using hp)
       simpa using this
     · cases h
 · rename_i i k es len cap ex
   split at h
   case isFalse=>cases h
   rename_i hes
   subst hes
   obtain ⟨a,c,rfl,hlc,⟨hcap,hex⟩,ha⟩:=rs
   split at h
   · rename_i hn0
     cases h
     subst hn0
     have hnv:nvs=[]:=by rw [Nat.zero_mul] at hnl; exact List.length_eq_zero_iff.1 hnl
     refine ⟨φ,w,_,Env.le_refl φ,hW,run_append_room (base:=some a) (w':=w) h0 h1 ha0 ha1 hu hti hz' hlen hnrun (by omega) (by rw [hnv]; rfl),a,c,rfl,hlc,⟨hcap,hex⟩,ha⟩
   · rename_i hn0
     have hadd:len+n<=c->∃ b o z,φ i=some (b,o,z)/\a=⟨b,o+k,none⟩/\o+k+c * P.cellsOf elem<=z:=fun hl=>ha.resolve_left (by omega)
     have holdrun:∀ (w1:World) (H1:AH) (old:List AV),WR w0 Pr φ H1 w1->rdCells H1 i k (len * P.cellsOf elem)=some old ->
         ∃ ovs:List Value,VRs φ old ovs/\ovs.length=len * P.cellsOf elem/\(Builtin.firstCells (P.cellsOf elem) len (.slice (some a) len c)).run P w1=.ok ovs.toArray w1:=by
       intro w1 H1 old hW1 hr
       have hr':srcA H1 (P.cellsOf elem) (.slice i k (P.cellsOf elem) len cap ex)=some (len,fun n=>if n<=len then rdCells H1 i k (n * P.cellsOf elem) else none):=by simp [srcA]
       exact srcA_cells (P:=P) hW1 (x:=.slice i k (P.cellsOf elem) len cap ex) ⟨a,c,rfl,hlc,⟨hcap,hex⟩,ha⟩ hr' (Nat.le_refl len) (by simpa using hr)
     split at h
     · rename_i hroom
       split at h
       · rename_i hone
         simp only [Option.map_eq_some_iff] at h
         obtain ⟨H2,hw,hv⟩:=h
         cases hv
         obtain ⟨b,o,zz,hφ,rfl,hb⟩:=hadd (by omega)
         obtain ⟨w',hst,hW2⟩:=wrCells_spec (P:=P) (o':=o+k+len * P.cellsOf elem) (n:=0) hW hφ hw rnew (by omega)
         refine ⟨φ,w',_,Env.le_refl φ,hW2,run_append_room (base:=some ⟨b,o+k,none⟩) (w':=w') h0 h1 ha0 ha1 hu hti hz' hlen hnrun (by omega) (by simpa [add_none] using hst),_,c,rfl,hroom,⟨hcap,hex⟩,.inr ⟨b,o,zz,hφ,rfl,hb⟩⟩
       · cases h
     · rename_i hnroom
       split at h
       · rename_i hexact
         have hcc:=hex hexact
         split at h
         · rename_i hg
           simp only [Option.bind_eq_some_iff,Option.map_eq_some_iff] at h
           obtain ⟨old,hr,⟨j,H2⟩,hp,hv⟩:=h
           cases hv
           obtain ⟨ovs,rold,hol,horun⟩:=holdrun _ _ old hWd hr
           exact grow H (some a) len c old ovs j H2 rfl hWd rold hol horun (by omega) hg hp
         · cases h
       rename_i hnex
       split at h
       · rename_i cs e0 hi
         split at h
         case isFalse=>cases h
         rename_i hc
         obtain ⟨rfl,hone,hg⟩:=hc
         simp only [Option.bind_eq_some_iff,Option.map_eq_some_iff] at h
         obtain ⟨old,hr,⟨j,H2⟩,hp,hv⟩:=h
         cases hv
         by_cases hroom:len+n<=c
         ·
           obtain ⟨b,o,zz,hφ,rfl,hb⟩:=hadd hroom
           obtain ⟨ovs,rold,hol,horun⟩:=holdrun _ _ old hW hr
           obtain ⟨b',o',z',carr,hφ',hheap,hcz,hlz,hcv⟩:=hW.obj i _ hi
           rw [hφ] at hφ'; cases hφ'
           have hOi:Owned H i:=⟨_,hi,rfl⟩
           have hbsz:b < w.heap.size:=hW.lt i _ hφ
           have hPr:=hW.own i _ hOi hφ
           have hneed:(len+n) * P.cellsOf e0<=c * P.cellsOf e0:=Nat.mul_le_mul_right _ hroom
           have hsplit:(len+n) * P.cellsOf e0=len * P.cellsOf e0+n * P.cellsOf e0:=Nat.add_mul _ _ _
           obtain ⟨c',hc',hcs',hlo,hin⟩:=setCells_heap nvs w b (o+k+len * P.cellsOf e0) carr e0 hheap (by rw [hnl]; omega)
           obtain ⟨f1,f2,f3,f4,f5⟩:=setCells_frame nvs w b (o+k+len * P.cellsOf e0)
           have hno:∀ q x,Owned (H.set i .dead) q->φ q=some x->x.1≠b:=fun q x ⟨oo,hq,hw'⟩ hx e=>by
             by_cases eq:q=i
             · subst eq
               rw [List.getElem?_set] at hq; simp only [if_true] at hq
               split at hq
               · cases hq; cases hw'
               · cases hq
             · rw [List.getElem?_set_ne (Ne.symm eq)] at hq
               exact eq (hW.inj q i x _ ⟨oo,hq,hw'⟩ hOi hx hφ e)
           have hW1:WR w0 Pr φ (H.set i .dead) (w.setCells b (o+k+len * P.cellsOf e0) nvs):=
             (hW.kill (i:=i)).turn hPr hno f1 f2 f3 f4 f5
           have hn':=(put_spec hW1 hp).1
           have hst:(storeCells ⟨b,o+k+len * P.cellsOf e0,none⟩ nvs).run P w=.ok () (w.setCells b (o+k+len * P.cellsOf e0) nvs):=by
             have:=run_storeCells_cells (P:=P) b (o+k+len * P.cellsOf e0) nvs 0 w (fun q hq=>by
               rw [cellOf hheap,Array.getElem?_eq_getElem (by rw [hcz]; omega)]; rfl) (fun q hq=>by simp [World.frozen?,hheap]) (fun v hv=>by
               obtain ⟨q,hq⟩:=List.getElem?_of_mem hv
               have hql:=lt_of_get hq
               obtain ⟨x',hx'⟩:∃ x',new[q]? =some x':=⟨_,List.getElem?_eq_getElem (by rw [hnl2,<-hnl]; exact hql)⟩
               obtain ⟨v',hv',rv'⟩:=rnew.get q x' hx'
               rw [hq] at hv'; cases hv'
               exact one_spec (List.all_eq_true.1 hone x' (List.mem_of_getElem? hx')) rv')
             simpa using this
           obtain ⟨hle,hW2⟩:=hW1.adopt hp (b:=b) (off:=o+k) (z:=zz) (by rw [f1]; exact hbsz) hPr hno
             ⟨b,o+k,zz,c',Env.set_self _ _ _,hc',by rw [hcs']; exact hcz,by simp only [List.length_append,hnl2,rold.length,hol]; omega,fun q y hq=>by
               rcases Nat.lt_or_ge q old.length with hlt | hge
               · rw [List.getElem?_append_left hlt] at hq
                 have hqo:q < len * P.cellsOf e0:=by rw [rold.length,hol] at hlt; exact hlt
                 rw [hlo _ (by omega)]
                 simp only [rdCells,hi] at hr
                 split at hr
                 · cases hr
                   rw [List.getElem?_take,if_pos hqo,List.getElem?_drop] at hq
                   obtain ⟨u,hu',ru⟩:=hcv (k+q) y hq
                   exact ⟨u,by rw [Nat.add_assoc]; exact hu',ru.mono (Env.le_set _ hn')⟩
                 · cases hr
               · rw [List.getElem?_append_right hge] at hq
                 obtain ⟨u,hu',ru⟩:=rnew.get _ y hq
                 have hol':old.length=len * P.cellsOf e0:=by rw [rold.length,hol]
                 refine ⟨u,?_,ru.mono (Env.le_set _ hn')⟩
                 have:=hin _ u hu'
                 rw [show o+k+len * P.cellsOf e0+(q - old.length)=o+k+q by omega] at this
                 exact this⟩ rfl
           refine ⟨_,_,_,hle,hW2,run_append_room (base:=some ⟨b,o+k,none⟩) (w':=w.setCells b (o+k+len * P.cellsOf e0) nvs) h0 h1 ha0 ha1 hu hti hz' hlen hnrun hroom (by simpa [add_none] using hst),_,c,rfl,Nat.le_refl _,⟨hroom,fun e=>(by cases e)⟩,.inr ⟨b,o+k,zz,Env.set_self _ _ _,rfl,by omega⟩⟩
         · have hr':rdCells H i k (len * P.cellsOf e0)=some old:=hr
           obtain ⟨ovs,rold,hol,horun⟩:=holdrun _ _ old hWd hr'
           exact grow (H.set i .dead) (some a) len c old ovs j H2 rfl (hWd.kill) rold hol horun hroom hg hp
       · cases h
 · cases h
end
end Go.Dv
namespace Go.Dv
section
variable {P:Program} {w0:World} {Pr:Nat->Prop} {φ:Env} {H:AH} {w:World}
theorem copyA_spec (hW:WR w0 Pr φ H w) {dT:TypeId} {argTypes:Array TypeId} {args:Array Value} {ty:TypeId} {d s v:AV} {ud us:Value} {H':AH}
   (h0:argTypes[0]? =some dT) (ha0:args[0]? =some ud) (ha1:args[1]? =some us) (rd:VR φ d ud) (rs:VR φ s us) (h:copyA P dT d s H=some (v,H')) :
   ∃ w' y,WR w0 Pr φ H' w'/\(Builtin.copy_ argTypes ty args).run P w=.ok y w'/\VR φ v y:=by
 simp only [copyA,Option.bind_eq_some_iff] at h
 obtain ⟨elem,hel,ti,hti,⟨m,f⟩,hsrc,h⟩:=h
 have hu:=sliceElem_spec hel
 have hlen:=srcA_len (P:=P) (w:=w) rs hsrc
 split at h
 · cases h
   simp only [VR] at rd; subst rd
   refine ⟨w,_,hW,?_,rfl⟩
   have hf:(Builtin.firstCells (P.cellsOf elem) 0 us).run P w=.ok #[] w:=by
     unfold srcA at hsrc
     split at hsrc
     · split at hsrc
       · obtain ⟨a,c,rfl,_⟩:=rs
         simp only [Builtin.firstCells,Nat.zero_mul]
         rfl
       · cases hsrc
     · simp only [VR] at rs; subst rs; rfl
     · simp only [VR] at rs; subst rs
       simp only [Builtin.firstCells,Sem.run_pure]
       congr 1
       apply Array.toList_inj.1
       simp
     · cases hsrc
   simp only [Builtin.copy_,h0,ha0,ha1,Sem.run_bind,run_und hu,Result.andThen_ok,hlen,run_size hti,Nat.min_zero,Nat.min_def,Nat.le_zero,hf,Sem.run_pure]
   split
   · rename_i h0; subst h0; simp [hf,goInt]
   · simp [hf,goInt]
 · rename_i i k es len cap ex
   split at h
   case isFalse=>cases h
   rename_i hes
   subst hes
   simp only [Option.bind_eq_some_iff] at h
   obtain ⟨cs,hcs,h⟩:=h
   obtain ⟨a,c,rfl,hlc,hcap,ha⟩:=rd
   obtain ⟨vs,rvs,hvl,hrun⟩:=srcA_cells (P:=P) hW rs hsrc (Nat.min_le_left m len) hcs
   split at h
   · rename_i hz
     cases h
     have hz':min m len=0:=hz
     rw [hz'] at hrun hvl
     have hvn:vs=[]:=List.length_eq_zero_iff.1 (by rw [hvl,Nat.zero_mul])
     subst hvn
     refine ⟨w,_,hW,?_,rfl⟩
     simp only [Builtin.copy_,h0,ha0,ha1,Sem.run_bind,run_und hu,Result.andThen_ok,hlen,run_size hti,hz,hrun,Sem.run_pure]
     simp [goInt]
     rfl
   · rename_i hz
     simp only [Option.map_eq_some_iff] at h
     obtain ⟨H2,hw,hv⟩:=h
     cases hv
     have hc0:c≠0:=by
       have:Nat.min m len<=len:=Nat.min_le_right _ _
       omega
     obtain ⟨b,o,z,hφ,rfl,hb⟩:=ha.resolve_left hc0
     obtain ⟨w',hst,hW2⟩:=wrCells_spec (P:=P) (o':=o+k) (n:=0) hW hφ hw rvs (by omega)
     refine ⟨w',_,hW2,?_,rfl⟩
     simp only [Builtin.copy_,h0,ha0,ha1,Sem.run_bind,run_und hu,Result.andThen_ok,hlen,run_size hti,hrun,hst,Sem.run_pure]
     simp [goInt]
 · cases h
def clearA (P:Program) (t:TypeId) (x:AV) (H:AH):Option AH:=
 (sliceElem P t).bind fun elem=>(zeroA P elem).bind fun z=>match x with
   | .nilSlice=>some H
   | .slice i k es len _ _=>if es=P.cellsOf elem/\z.cells.length=es/\z.cells≠[] then
       if len=0 then some H else wrCells H i k (zrow z.cells (len * es)) else none
   | _=>none
theorem clearA_spec (hW:WR w0 Pr φ H w) {t:TypeId} {argTypes:Array TypeId} {args:Array Value} {ty:TypeId} {x:AV} {ux:Value} {H':AH}
   (h0:argTypes[0]? =some t) (ha0:args[0]? =some ux) (rx:VR φ x ux) (h:clearA P t x H=some H') :
   ∃ w',WR w0 Pr φ H' w'/\(Builtin.clear_ argTypes ty args).run P w=.ok (.tuple #[]) w':=by
 simp only [clearA,Option.bind_eq_some_iff] at h
 obtain ⟨elem,hel,z,hz,h⟩:=h
 have hu:=sliceElem_spec hel
 obtain ⟨ti,zv,hti,hzv,rz⟩:=zeroA_spec hz φ
 split at h
 · cases h
   simp only [VR] at rx; subst rx
   exact ⟨w,hW,by simp only [Builtin.clear_,h0,ha0,Sem.run_bind,run_und hu,Result.andThen_ok,Sem.run_pure]⟩
 · rename_i i k es len cap ex
   split at h
   case isFalse=>cases h
   rename_i hc
   obtain ⟨hes,hzl,hne⟩:=hc
   obtain ⟨a,c,rfl,hlc,⟨hcap,hex⟩,ha⟩:=rx
   split at h
   · rename_i hl
     cases h; subst hl
     exact ⟨w,hW,by simp only [Builtin.clear_,h0,ha0,Sem.run_bind,run_und hu,Result.andThen_ok,Sem.run_pure]⟩
   · rename_i hl
     obtain ⟨b,o,zz,hφ,rfl,hb⟩:=ha.resolve_left (by omega)
     have hzs:zv.cells.size=es:=by have:=rz.cells.length; rw [hzl] at this; simpa using this.symm
     have hrow:=zrow_VRs (len * es) rz.cells hne
     obtain ⟨w',hst,hW2⟩:=wrCells_spec (P:=P) (o':=o+k) (n:=0) hW hφ h hrow (by omega)
     refine ⟨w',hW2,?_⟩
     obtain ⟨n,rfl⟩:∃ n,len=n+1:=⟨len - 1,by omega⟩
     have hzc:Builtin.zeroCells zv.cells (n+1)=(Array.range ((n+1) * es)).map (zv.cells[· % zv.cells.size]!):=by
       unfold Builtin.zeroCells; rw [hzs]
     simp only [Builtin.clear_,h0,ha0,Sem.run_bind,run_und hu,Result.andThen_ok,run_zero hti hzv,hzc,hst,Sem.run_pure]
 · cases h
def eqFsA (P:Program) (rec:TypeId->AV->AV->Option Bool) (xs ys:List AV):List Field->Option Bool
 | []=>some true
 | f::fs=>if f.name == "_" then eqFsA P rec xs ys fs
   else (partA P f.type xs f.offset).bind fun a=>(partA P f.type ys f.offset).bind fun b=>(rec f.type a b).bind fun r=>(eqFsA P rec xs ys fs).map fun s=>r && s
def eqVA (P:Program):Nat->TypeId->AV->AV->Option Bool
 | 0,_,_,_=>none
 | d+1,t,x,y=>match P.underlying t with
   | some (.int _)=>match x,y with
     | .int k a,.int k' b=>if k=k' then some (a == b) else none
     | _,_=>none
   | some .bool=>match x,y with
     | .bool a,.bool b=>some (a == b)
     | _,_=>none
   | some .string=>match x,y with
     | .str a,.str b=>some (a == b)
     | _,_=>none
   | some (.struct fs)=>match x,y with
     | .agg xs,.agg ys=>if P.stoodInHeld t then none else eqFsA P (eqVA P d) xs ys fs.toList
     | _,_=>none
   | _=>none
theorem eqFsA_spec {d N:Nat} (ih:∀ (t:TypeId) (x y:AV) (ux uy:Value) (r:Bool),VR φ x ux->VR φ y uy->eqVA P d t x y=some r->∀ w,(Op.equalIn N t ux uy).run P w=.ok r w)
   {xs ys:List AV} {us vs:Array Value} (rx:VRs φ xs us.toList) (ry:VRs φ ys vs.toList):∀ (fs:List Field) (r:Bool),eqFsA P (eqVA P d) xs ys fs=some r->∀ w,(Op.eqFields N us vs fs).run P w=.ok r w
 | [],r,h,w=>by
   simp only [eqFsA,Option.some.injEq] at h
   subst h
   simp [Op.eqFields]
 | f::fs,r,h,w=>by
   simp only [eqFsA] at h
   split at h
   · rename_i hn
     have hn':¬ (f.name≠ "_"):=by simpa using hn
     rw [Op.eqFields,if_neg hn']
     exact eqFsA_spec ih rx ry fs r h w
   · rename_i hn
     have hn':f.name≠ "_":=by simpa using hn
     simp only [Option.bind_eq_some_iff,Option.map_eq_some_iff] at h
     obtain ⟨a,ha,b,hb,r0,h0,s,hs,rfl⟩:=h
     obtain ⟨ua,hua,ra⟩:=partA_spec (P:=P) rx ha
     obtain ⟨ub,hub,rb⟩:=partA_spec (P:=P) ry hb
     rw [Op.eqFields]
     simp only [if_pos hn',Sem.run_bind,hua w,hub w,Result.andThen_ok,ih _ _ _ _ _ _ ra rb h0 w]
     cases r0
     · simp
     · simpa using eqFsA_spec ih rx ry fs s hs w
theorem eqVA_spec:∀ (d N:Nat),d<=N->∀ (t:TypeId) (x y:AV) (ux uy:Value) (r:Bool),VR φ x ux->VR φ y uy->eqVA P d t x y=some r->∀ w,(Op.equalIn N t ux uy).run P w=.ok r w
 | 0,_,_,_,_,_,_,_,_,_,_,h,_=>by simp [eqVA] at h
 | d+1,0,hN,_,_,_,_,_,_,_,_,_,_=>by omega
 | d+1,N+1,hN,t,x,y,ux,uy,r,rx,ry,h,w=>by
   simp only [eqVA] at h
   split at h
   · rename_i k0 hu
     split at h
     · rename_i k a k' b
       split at h
       · rename_i hk; subst hk; cases h
         simp only [VR] at rx ry; subst rx; subst ry
         simp [Op.equalIn,run_und hu]
       · cases h
     · cases h
   · rename_i hu
     split at h
     · cases h
       simp only [VR] at rx ry; subst rx; subst ry
       simp [Op.equalIn,run_und hu]
     · cases h
   · rename_i hu
     split at h
     · cases h
       simp only [VR] at rx ry; subst rx; subst ry
       simp [Op.equalIn,run_und hu]
     · cases h
   · rename_i fs hu
     split at h
     · rename_i xs ys
       split at h
       · cases h
       · rename_i hp
         have hp':P.stoodInHeld t=false:=by simpa using hp
         obtain ⟨us,rfl,rus⟩:=rx
         obtain ⟨vs,rfl,rvs⟩:=ry
         have hf:P.fieldsOf t=fs:=by simp [Program.fieldsOf,hu]
         rw [run_equalIn_struct (P:=P) w N t us vs (by rw [hf]; exact hu) hp',hf]
         exact eqFsA_spec (fun t x y ux uy r rx ry h w=>eqVA_spec d N (by omega) t x y ux uy r rx ry h w) rus rvs fs.toList r h w
     · cases h
   · cases h
def eqK (P:Program) (kt:TypeId) (k k':Value):Option Bool:=(ofV 6 k).bind fun x=>(ofV 6 k').bind fun y=>eqVA P 6 kt x y
def sameK (P:Program) (kt:TypeId) (d:TypeDesc) (k k':Value):Option Bool:=
 match Instr.sameNow d k k' with
 | some b=>some b
 | none=>match eqK P kt k k' with
   | some b=>some b
   | none=>pureRun P (Op.equal kt k k')
def findA (P:Program) (kt:TypeId) (d:TypeDesc) (kv:Value):List (AV × AV × Nat)->Nat->Option (Option (Nat × AV))
 | [],_=>some none
 | (k,v,_)::es,i =>
   (toV k).bind fun kv'=>match sameK P kt d kv kv' with
     | some true=>some (some (i,v))
     | some false=>findA P kt d kv es (i+1)
     | none=>none
def FR (φ:Env):Option (Nat × AV)->Option (Nat × Value)->Prop
 | none,r=>r=none
 | some (i,v),r=>∃ u,r=some (i,u)/\VR φ v u
theorem eqi (n:Nat) {t:TypeId} {j:IntKind} (hu:P.underlying t=some (.int j)) (k:IntKind) (a b:Int):(Op.equalIn (n+1) t (.int k a) (.int k b)).run P w=.ok (a == b) w:=by
 simp only [Op.equalIn,Sem.run_bind,run_und hu,Result.andThen_ok,if_true,Sem.run_pure]
theorem eqs (n:Nat) {t:TypeId} (hu:P.underlying t=some .string) (a b:ByteArray):(Op.equalIn (n+1) t (.string a) (.string b)).run P w=.ok (a == b) w:=by
 simp only [Op.equalIn,Sem.run_bind,run_und hu,Result.andThen_ok,Sem.run_pure]
theorem eqb (n:Nat) {t:TypeId} (hu:P.underlying t=some .bool) (a b:Bool):(Op.equalIn (n+1) t (.bool a) (.bool b)).run P w=.ok (a == b) w:=by
 simp only [Op.equalIn,Sem.run_bind,run_und hu,Result.andThen_ok,Sem.run_pure]
theorem same_equal {kt:TypeId} {d:TypeDesc} (hu:P.underlying kt=some d) {k k':Value} {b:Bool} (h:Instr.sameNow d k k'=some b):(Op.equal kt k k').run P w=.ok b w:=by
 unfold Instr.sameNow at h
 split at h
 · split at h
   · rename_i hk
     subst hk
     cases h
     exact eqi 9999 hu _ _ _
   · cases h
 · cases h; exact eqs 9999 hu _ _
 · cases h; exact eqb 9999 hu _ _
 · cases h
theorem sameK_equal {kt:TypeId} {d:TypeDesc} (hu:P.underlying kt=some d) {k k':Value} {b:Bool} (h:sameK P kt d k k'=some b):(Op.equal kt k k').run P w=.ok b w:=by
 unfold sameK at h
 split at h
 · rename_i hs; cases h; exact same_equal hu hs
 · split at h
   · rename_i he
     cases h
     simp only [eqK,Option.bind_eq_some_iff] at he
     obtain ⟨x,hx,y,hy,he⟩:=he
     exact eqVA_spec (φ:=fun _=>none) 6 Op.maxDepth (by unfold Op.maxDepth; omega) kt x y k k' _ (ofV_spec _ _ _ hx) (ofV_spec _ _ _ hy) he w
   · exact pureRun_spec _ _ h w
theorem findA_asking {kt:TypeId} {d:TypeDesc} (hu:P.underlying kt=some d) {kv:Value}:∀ (es:List (AV × AV × Nat)) (es':List MapEntry) (i:Nat) (r:Option (Nat × AV)),MR φ es es'->findA P kt d kv es i=some r ->
   ∃ r',(Instr.findAsking kt kv es' i).run P w=.ok r' w/\FR φ r r'
 | [],es',i,r,hm,h=>by
   rw [show es'=[] from hm]
   cases h
   exact ⟨none,rfl,rfl⟩
 | (k,v,n)::es,es',i,r,⟨e,l,he,rk,rv,_,rs⟩,h=>by
   subst he
   simp only [findA,Option.bind_eq_some_iff] at h
   obtain ⟨kv',hk,h⟩:=h
   have hkv:=toV_spec k kv' hk _ rk
   split at h
   · rename_i hs
     cases h
     refine ⟨some (i,e.val),?_,e.val,rfl,rv⟩
     simp only [Instr.findAsking,Sem.run_bind,hkv,sameK_equal hu hs,Result.andThen_ok,if_true,Sem.run_pure]
   · rename_i hs
     obtain ⟨r',hr,hf⟩:=findA_asking hu es l (i+1) r rs h
     refine ⟨r',?_,hf⟩
     simp only [Instr.findAsking,Sem.run_bind,hkv,sameK_equal hu hs,Result.andThen_ok,Bool.false_eq_true,if_false,hr]
   · cases h
theorem findA_now {kt:TypeId} {d:TypeDesc} {kv:Value}:∀ (es:List (AV × AV × Nat)) (es':List MapEntry) (i:Nat) (r:Option (Nat × AV)) (r':Option (Nat × Value)),MR φ es es'->findA P kt d kv es i=some r ->
   Instr.findNow d kv es' i=some r'->FR φ r r'
 | [],es',i,r,r',hm,h,hn=>by
   rw [show es'=[] from hm] at hn
   cases h; cases hn; rfl
 | (k,v,n)::es,es',i,r,r',⟨e,l,he,rk,rv,_,rs⟩,h,hn=>by
   subst he
   simp only [findA,Option.bind_eq_some_iff] at h
   obtain ⟨kv',hk,h⟩:=h
   have hkv:=toV_spec k kv' hk _ rk
   simp only [Instr.findNow,hkv] at hn
   unfold sameK at h
   split at hn
   · rename_i hs; rw [hs] at h; cases h; cases hn; exact ⟨e.val,rfl,rv⟩
   · rename_i hs; rw [hs] at h; exact findA_now es l (i+1) r r' rs h hn
   · cases hn
theorem findKey_spec {kt:TypeId} {d:TypeDesc} (hu:P.underlying kt=some d) {kv:Value} {es:List (AV × AV × Nat)} {es':List MapEntry} {r:Option (Nat × AV)} (hm:MR φ es es') (h:findA P kt d kv es 0=some r) :
   ∃ r',(Instr.findKey kt kv es').run P w=.ok r' w/\FR φ r r':=by
 cases hn:Instr.findNow d kv es' 0 with
 | some r' =>
   refine ⟨r',?_,findA_now es es' 0 r r' hm h hn⟩
   simp only [Instr.findKey,Sem.run_bind,run_und hu,Result.andThen_ok,hn,Sem.run_pure]
 | none =>
   obtain ⟨r',hr,hf⟩:=findA_asking (w:=w) hu es es' 0 r hm h
   refine ⟨r',?_,hf⟩
   simp only [Instr.findKey,Sem.run_bind,run_und hu,Result.andThen_ok,hn,hr]
def mapTypes (P:Program) (t:TypeId):Option (TypeId × TypeId):=
 match P.underlying t with
 | some (.map k e)=>some (k,e)
 | _=>none
theorem mapTypes_spec {t k e:TypeId} (h:mapTypes P t=some (k,e)):P.underlying t=some (.map k e):=by
 unfold mapTypes at h
 split at h
 · rename_i hu; cases h; exact hu
 · cases h
def entriesA (H:AH):AV->Option (List (AV × AV × Nat))
 | .nilMap=>some []
 | .map i=>match H[i]? with
   | some (.map es _)=>some es
   | _=>none
 | _=>none
def askA (P:Program) (kt:TypeId) (empty:Bool) (k:AV):Option (Value × TypeDesc):=
 (toV k).bind fun kv=>(P.underlying kt).bind fun d=>(pureRun P (Instr.checkKey empty 10000 kt kv)).map fun _=>(kv,d)
theorem askA_spec {kt:TypeId} {empty:Bool} {k:AV} {uk kv:Value} {d:TypeDesc} (r:VR φ k uk) (h:askA P kt empty k=some (kv,d)) :
   uk=kv/\P.underlying kt=some d/\(Instr.checkKey empty 10000 kt uk).run P w=.ok () w:=by
 simp only [askA,Option.bind_eq_some_iff,Option.map_eq_some_iff] at h
 obtain ⟨kv',hk,d',hd,u,hc,he⟩:=h
 cases he
 have:=toV_spec k kv hk uk r
 subst this
 exact ⟨rfl,hd,pureRun_spec _ _ hc w⟩
def lookupA (P:Program) (t:TypeId) (m k:AV) (ok:Bool) (H:AH):Option AV:=
 (mapTypes P t).bind fun (kt,et)=>(entriesA H m).bind fun es=>(askA P kt es.isEmpty k).bind fun (kv,d)=>(findA P kt d kv es 0).bind fun r =>
   match r with
   | some (_,v)=>some (if ok then .tuple [v,.bool true] else v)
   | none=>(zeroA P et).map fun z=>if ok then .tuple [z,.bool false] else z
theorem MR.isEmpty {es:List (AV × AV × Nat)} {es':List MapEntry} (h:MR φ es es'):es.isEmpty=es'.isEmpty:=by
 match es,h with
 | [],h=>rw [show es'=[] from h]; rfl
 | (_,_,_)::_,⟨_,_,he,_⟩=>subst he; rfl
theorem MR.length {es:List (AV × AV × Nat)} {es':List MapEntry} (h:MR φ es es'):es.length=es'.length:=by
 match es,h with
 | [],h=>rw [show es'=[] from h]; rfl
 | (_,_,_)::es,⟨_,l,he,_,_,_,hs⟩=>subst he; simp [MR.length hs]
theorem entriesA_spec (hW:WR w0 Pr φ H w) {m:AV} {um:Value} {es:List (AV × AV × Nat)} (rm:VR φ m um) (h:entriesA H m=some es) :
   (um=.map none/\es=[])∨∃ (b:Nat) (es':Array MapEntry) (c:Nat),um=.map (some b)/\w.heap[b]? =some (.map es' c)/\MR φ es es'.toList:=by
 unfold entriesA at h
 split at h
 · cases h; simp only [VR] at rm; exact .inl ⟨rm,rfl⟩
 · split at h
   · rename_i hi
     cases h
     obtain ⟨b,z,hφ,rfl⟩:=rm
     obtain ⟨b',z',es',hφ',hheap,hmr⟩:=hW.obj _ _ hi
     rw [hφ] at hφ'; cases hφ'
     exact .inr ⟨b,es',_,rfl,hheap,hmr⟩
   · cases h
 · cases h
theorem run_getMap {b c:Nat} {es:Array MapEntry} (h:w.heap[b]? =some (.map es c)):(getObj b).run P w=.ok (.map es c) w:=by simp [getObj,Sem.run,h]
theorem isEmpty_toList (es:Array MapEntry):es.toList.isEmpty=es.isEmpty:=by cases es with | mk l=>cases l <;> rfl
theorem lookupA_spec (hW:WR w0 Pr φ H w) {t:TypeId} {m k v:AV} {um uk:Value} {ok:Bool} (rm:VR φ m um) (rk:VR φ k uk) (h:lookupA P t m k ok H=some v) :
   ∃ y,(Instr.lookup t um uk ok).run P w=.ok y w/\VR φ v y:=by
 simp only [lookupA,Option.bind_eq_some_iff] at h
 obtain ⟨⟨kt,et⟩,hmt,es,hes,⟨kv,d⟩,hask,r,hf,h⟩:=h
 have hu:=mapTypes_spec hmt
 obtain ⟨rfl,hd,hck⟩:=askA_spec (P:=P) (w:=w) rk hask
 rcases entriesA_spec hW rm hes with ⟨rfl,rfl⟩ | ⟨b,es',c,rfl,hheap,hm⟩
 · cases hf
   simp only [Option.map_eq_some_iff] at h
   obtain ⟨z,hz,rfl⟩:=h
   obtain ⟨ti,zv,hti,hzv,rz⟩:=zeroA_spec hz φ
   obtain ⟨r',hfk,hr⟩:=findKey_spec (P:=P) (w:=w) (φ:=φ) (es':=[]) hd rfl (kv:=uk) (es:=[]) (r:=none) rfl
   obtain rfl:=hr
   refine ⟨if ok then .tuple #[zv,.bool false] else zv,?_,?_⟩
   · have hck':(Instr.checkKey (#[]:Array MapEntry).isEmpty 10000 kt uk).run P w=.ok () w:=hck
     simp only [Instr.lookup,Sem.run_bind,run_und hu,Result.andThen_ok,Sem.run_pure,hck',hfk,run_zero hti hzv]
   · cases ok
     · exact rz
     · exact ⟨_,rfl,.cons rz (.one rfl)⟩
 · obtain ⟨r',hfk,hr⟩:=findKey_spec (P:=P) (w:=w) hd hm hf
   have hemp:es.isEmpty=es'.isEmpty:=by rw [hm.isEmpty,isEmpty_toList]
   rw [hemp] at hck
   cases r with
   | some iv =>
     obtain ⟨i,v'⟩:=iv
     obtain ⟨u,rfl,ru⟩:=hr
     simp only [Option.some.injEq] at h
     subst h
     refine ⟨if ok then .tuple #[u,.bool true] else u,?_,?_⟩
     · simp only [Instr.lookup,Sem.run_bind,run_und hu,Result.andThen_ok,run_getMap hheap,Sem.run_pure,hck,hfk]
     · cases ok
       · exact ru
       · exact ⟨_,rfl,.cons ru (.one rfl)⟩
   | none =>
     obtain rfl:=hr
     simp only [Option.map_eq_some_iff] at h
     obtain ⟨z,hz,rfl⟩:=h
     obtain ⟨ti,zv,hti,hzv,rz⟩:=zeroA_spec hz φ
     refine ⟨if ok then .tuple #[zv,.bool false] else zv,?_,?_⟩
     · simp only [Instr.lookup,Sem.run_bind,run_und hu,Result.andThen_ok,run_getMap hheap,Sem.run_pure,hck,hfk,run_zero hti hzv]
     · cases ok
       · exact rz
       · exact ⟨_,rfl,.cons rz (.one rfl)⟩
def mapPutA (P:Program) (t:TypeId) (m k v:AV) (H:AH):Option AH:=
 (mapTypes P t).bind fun (kt,_)=>match m with
   | .map i=>match H[i]? with
     | some (.map es clock)=>(askA P kt false k).bind fun (kv,d)=>(findA P kt d kv es 0).bind fun r =>
       match r with
       | some (j,_)=>(es[j]?).bind fun (k0,_,n)=>(toV k0).bind fun kv0 =>
         if Instr.sameBits 10000 kv0 kv=true then some (H.set i (.map (es.set j (k,v,n)) clock)) else none
       | none=>some (H.set i (.map (es++[(k,v,clock)]) (clock+1)))
     | _=>none
   | _=>none
theorem MR.get {es:List (AV × AV × Nat)} {es':List MapEntry} (h:MR φ es es'):∀ (j:Nat) (k v:AV) (n:Nat),es[j]? =some (k,v,n)->∃ e,es'[j]? =some e/\VR φ k e.key/\VR φ v e.val/\e.born=n:=by
 intro j
 induction j generalizing es es' with
 | zero =>
   intro k v n hj
   match es,h with
   | [],_=>simp at hj
   | (_,_,_)::_,⟨e,l,he,rk,rv,rn,_⟩=>subst he; simp at hj; obtain ⟨rfl,rfl,rfl⟩:=hj; exact ⟨e,rfl,rk,rv,rn⟩
 | succ j ih =>
   intro k v n hj
   match es,h with
   | [],_=>simp at hj
   | (_,_,_)::_,⟨e,l,he,_,_,_,rs⟩=>subst he; simpa using ih rs k v n (by simpa using hj)
theorem MR.push:∀ {es:List (AV × AV × Nat)} {es':List MapEntry},MR φ es es'->∀ {k v:AV} {n:Nat} {e:MapEntry},VR φ k e.key->VR φ v e.val->e.born=n->MR φ (es++[(k,v,n)]) (es'++[e])
 | [],es',h,k,v,n,e,rk,rv,rn=>by rw [show es'=[] from h]; exact ⟨e,[],rfl,rk,rv,rn,rfl⟩
 | (_,_,_)::es,_,⟨e0,l,he,a,b,c,rs⟩,k,v,n,e,rk,rv,rn=>by subst he; exact ⟨e0,_,rfl,a,b,c,MR.push rs rk rv rn⟩
theorem MR.set:∀ {es:List (AV × AV × Nat)} {es':List MapEntry},MR φ es es'->∀ (j:Nat) {k v:AV} {n:Nat} {e:MapEntry},VR φ k e.key->VR φ v e.val->e.born=n->MR φ (es.set j (k,v,n)) (es'.set j e)
 | [],es',h,j,k,v,n,e,rk,rv,rn=>by rw [show es'=[] from h]; rfl
 | (_,_,_)::es,_,⟨e0,l,he,a,b,c,rs⟩,0,k,v,n,e,rk,rv,rn=>by subst he; exact ⟨e,l,rfl,rk,rv,rn,rs⟩
 | (_,_,_)::es,_,⟨e0,l,he,a,b,c,rs⟩,j+1,k,v,n,e,rk,rv,rn=>by subst he; exact ⟨e0,_,rfl,a,b,c,MR.set rs j rk rv rn⟩
theorem WR.putMap (hW:WR w0 Pr φ H w) {i b c z:Nat} {es:List (AV × AV × Nat)} {es':Array MapEntry} (hi:H[i]? =some (.map es c)) (hφ:φ i=some (b,0,z)) (hheap:w.heap[b]? =some (.map es' c))
   {fs:List (AV × AV × Nat)} {fs':Array MapEntry} {c':Nat} (hm:MR φ fs fs'.toList) :
   (setObj b (.map fs' c')).run P w=.ok () { w with heap:=w.heap.setIfInBounds b (.map fs' c') }/\WR w0 Pr φ (H.set i (.map fs c')) { w with heap:=w.heap.setIfInBounds b (.map fs' c') }:=by
 refine ⟨by simp [setObj,Sem.run,hheap],hW.rewrite hi rfl rfl hφ (by simp) rfl rfl rfl (fun d hd=>?_) ⟨b,z,fs',hφ,?_,hm⟩⟩
 · rw [Array.getElem?_setIfInBounds,if_neg (fun e=>hd e.symm)]
 · have:=hW.lt i _ hφ
   simp only at this
   simp [Array.getElem?_setIfInBounds,this]
theorem mapPutA_spec (hW:WR w0 Pr φ H w) {t:TypeId} {m k v:AV} {um uk uv:Value} {H':AH} (rm:VR φ m um) (rk:VR φ k uk) (rv:VR φ v uv) (h:mapPutA P t m k v H=some H') :
   ∃ w',(Instr.mapUpdate t um uk uv).run P w=.ok () w'/\WR w0 Pr φ H' w':=by
 simp only [mapPutA,Option.bind_eq_some_iff] at h
 obtain ⟨⟨kt,et⟩,hmt,h⟩:=h
 have hu:=mapTypes_spec hmt
 split at h
 case h_2=>cases h
 rename_i i
 split at h
 case h_2=>cases h
 rename_i es clock hi
 simp only [Option.bind_eq_some_iff] at h
 obtain ⟨⟨kv,d⟩,hask,r,hf,h⟩:=h
 obtain ⟨rfl,hd,hck⟩:=askA_spec (P:=P) (w:=w) rk hask
 obtain ⟨b,z,hφ,rfl⟩:=rm
 obtain ⟨b',z',es',hφ',hheap,hm⟩:=hW.obj _ _ hi
 rw [hφ] at hφ'; cases hφ'
 obtain ⟨r',hfk,hr⟩:=findKey_spec (P:=P) (w:=w) hd hm hf
 cases r with
 | some iv =>
   obtain ⟨j,v'⟩:=iv
   obtain ⟨u,rfl,ru⟩:=hr
   simp only [Option.bind_eq_some_iff] at h
   obtain ⟨⟨k0,v0,n⟩,hj,kv0,hk0,h⟩:=h
   split at h
   · rename_i hsb
     cases h
     obtain ⟨e,he,rke,rve,rne⟩:=hm.get j k0 v0 n hj
     have hkey:=toV_spec k0 kv0 hk0 _ rke
     have hmod:(es'.modify j fun e=>{ e with key:=uk,val:=uv }).toList=es'.toList.set j { e with key:=uk,val:=uv }:=by
       apply List.ext_getElem?
       intro q
       simp only [Array.getElem?_toList,Array.getElem?_modify,List.getElem?_set]
       have he':es'[j]? =some e:=by simpa using he
       by_cases hq:j=q
       · subst hq
         have hl:=lt_of_get he
         simp at hl
         have hje:es'[j]=e:=by simpa [Array.getElem?_eq_getElem hl] using he'
         simp [hl,hje]
       · simp [hq]
     obtain ⟨hrun,hW'⟩:=hW.putMap (P:=P) hi hφ hheap (fs:=es.set j (k,v,n)) (fs':=es'.modify j fun e=>{ e with key:=uk,val:=uv }) (c':=clock) (by rw [hmod]; exact hm.set j rk rv rne)
     refine ⟨_,?_,hW'⟩
     have he':es'[j]? =some e:=by simpa using he
     rw [<-hkey] at hsb
     simp only [Instr.mapUpdate,Sem.run_bind,run_und hu,Result.andThen_ok,run_getMap hheap,hck,hfk,he',Option.map_some,Option.getD_some,Instr.keyThatStays,hsb,if_true,Sem.run_pure,hrun]
   · cases h
 | none =>
   obtain rfl:=hr
   cases h
   obtain ⟨hrun,hW'⟩:=hW.putMap (P:=P) hi hφ hheap (fs:=es++[(k,v,clock)]) (fs':=es'.push { key:=uk,val:=uv,born:=clock }) (c':=clock+1) (by simpa using hm.push (e:={ key:=uk,val:=uv,born:=clock }) rk rv rfl)
   refine ⟨_,?_,hW'⟩
   simp only [Instr.mapUpdate,Sem.run_bind,run_und hu,Result.andThen_ok,run_getMap hheap,hck,hfk,hrun]
end
end Go.Dv
namespace Go.Dv
def mapEntryA (P:Program) (t:TypeId) (m k:AV) (H:AH):Option (AV × AH):=
 (mapTypes P t).bind fun (kt,et)=>match m with
   | .map i=>match H[i]? with
     | some (.map es clock)=>(askA P kt false k).bind fun (kv,d)=>(findA P kt d kv es 0).bind fun r =>
       match r with
       | some (j,v)=>(es[j]?).bind fun (k0,v0,n)=>(toV k0).bind fun kv0 =>
         if Instr.sameBits 10000 kv0 kv=true then some (.tuple [v,.int .i64 n],H.set i (.map (es.set j (k,v0,n)) clock)) else none
       | none=>(zeroA P et).map fun z=>(.tuple [z,.int .i64 clock],H.set i (.map (es++[(k,z,clock)]) (clock+1)))
     | _=>none
   | _=>none
def entryStoreA (m s v:AV) (H:AH):Option AH:=
 match m,s with
 | .map i,.int _ born=>match H[i]? with
   | some (.map es clock)=>(es.findIdx? fun e=>((e.2.2:Nat):Int) == born).bind fun j=>(es[j]?).map fun (k,_,n)=>H.set i (.map (es.set j (k,v,n)) clock)
   | _=>none
 | _,_=>none
section
variable {P:Program} {w0:World} {Pr:Nat->Prop} {φ:Env} {H:AH} {w:World}
theorem modify_set (es':Array MapEntry) (j:Nat) (e:MapEntry) (f:MapEntry->MapEntry) (he:es'.toList[j]? =some e):(es'.modify j f).toList=es'.toList.set j (f e):=by
 apply List.ext_getElem?
 intro q
 simp only [Array.getElem?_toList,Array.getElem?_modify,List.getElem?_set]
 have he':es'[j]? =some e:=by simpa using he
 by_cases hq:j=q
 · subst hq
   have hl:=lt_of_get he
   simp at hl
   have hje:es'[j]=e:=by simpa [Array.getElem?_eq_getElem hl] using he'
   simp [hl,hje]
 · simp [hq]
theorem mapEntryA_spec (hW:WR w0 Pr φ H w) {t:TypeId} {m k v:AV} {um uk:Value} {H':AH} (rm:VR φ m um) (rk:VR φ k uk) (h:mapEntryA P t m k H=some (v,H')) :
   ∃ y w',(Instr.mapEntry t um uk).run P w=.ok y w'/\VR φ v y/\WR w0 Pr φ H' w':=by
 simp only [mapEntryA,Option.bind_eq_some_iff] at h
 obtain ⟨⟨kt,et⟩,hmt,h⟩:=h
 have hu:=mapTypes_spec hmt
 split at h
 case h_2=>cases h
 rename_i i
 split at h
 case h_2=>cases h
 rename_i es clock hi
 simp only [Option.bind_eq_some_iff] at h
 obtain ⟨⟨kv,d⟩,hask,r,hf,h⟩:=h
 obtain ⟨rfl,hd,hck⟩:=askA_spec (P:=P) (w:=w) rk hask
 obtain ⟨b,z,hφ,rfl⟩:=rm
 obtain ⟨b',z',es',hφ',hheap,hm⟩:=hW.obj _ _ hi
 rw [hφ] at hφ'; cases hφ'
 obtain ⟨r',hfk,hr⟩:=findKey_spec (P:=P) (w:=w) hd hm hf
 cases r with
 | some iv =>
   obtain ⟨j,v'⟩:=iv
   obtain ⟨u,rfl,ru⟩:=hr
   simp only [Option.bind_eq_some_iff] at h
   obtain ⟨⟨k0,v0,n⟩,hj,kv0,hk0,h⟩:=h
   split at h
   · rename_i hsb
     cases h
     obtain ⟨e,he,rke,rve,rne⟩:=hm.get j k0 v0 n hj
     have hkey:=toV_spec k0 kv0 hk0 _ rke
     obtain ⟨hrun,hW'⟩:=hW.putMap (P:=P) hi hφ hheap (fs:=es.set j (k,v0,n)) (fs':=es'.modify j fun e=>{ e with key:=uk }) (c':=clock) (by rw [modify_set es' j e _ he]; exact hm.set j rk rve rne)
     have he':es'[j]? =some e:=by simpa using he
     rw [<-hkey] at hsb
     refine ⟨.tuple #[u,goInt e.born],_,?_,⟨_,rfl,.cons ru (.one (by rw [rne]; rfl))⟩,hW'⟩
     simp only [Instr.mapEntry,Sem.run_bind,run_und hu,Result.andThen_ok,run_getMap hheap,hck,hfk,he',Option.map_some,Option.getD_some,Instr.keyThatStays,hsb,if_true,Sem.run_pure,hrun]
   · cases h
 | none =>
   obtain rfl:=hr
   simp only [Option.map_eq_some_iff] at h
   obtain ⟨zv,hz,h⟩:=h
   cases h
   obtain ⟨ti,zu,hti,hzu,rz⟩:=zeroA_spec hz φ
   obtain ⟨hrun,hW'⟩:=hW.putMap (P:=P) hi hφ hheap (fs:=es++[(k,zv,clock)]) (fs':=es'.push { key:=uk,val:=zu,born:=clock }) (c':=clock+1) (by simpa using hm.push (e:={ key:=uk,val:=zu,born:=clock }) rk rz rfl)
   refine ⟨.tuple #[zu,goInt clock],_,?_,⟨_,rfl,.cons rz (.one rfl)⟩,hW'⟩
   simp only [Instr.mapEntry,Sem.run_bind,run_und hu,Result.andThen_ok,run_getMap hheap,hck,hfk,run_zero hti hzu,hrun,Sem.run_pure]
theorem MR.findIdx:∀ {es:List (AV × AV × Nat)} {es':List MapEntry},MR φ es es'->∀ (born:Int),es.findIdx? (fun e=>((e.2.2:Nat):Int) == born)=es'.findIdx? (fun e=>(e.born:Int) == born)
 | [],es',h,_=>by rw [show es'=[] from h]; rfl
 | (_,_,_)::es,_,⟨e0,l,he,_,_,c,rs⟩,born=>by
   subst he
   simp only [List.findIdx?_cons,c,MR.findIdx rs born]
theorem entryStoreA_spec (hW:WR w0 Pr φ H w) {t:TypeId} {m s v:AV} {um us uv:Value} {H':AH} (rm:VR φ m um) (rs:VR φ s us) (rv:VR φ v uv) (h:entryStoreA m s v H=some H') :
   ∃ w',(Instr.entryStore t um us uv).run P w=.ok () w'/\WR w0 Pr φ H' w':=by
 unfold entryStoreA at h
 split at h
 · rename_i i kk born
   split at h
   · rename_i es clock hi
     simp only [Option.bind_eq_some_iff,Option.map_eq_some_iff] at h
     obtain ⟨j,hfi,⟨k,v0,n⟩,hj,rfl⟩:=h
     obtain ⟨b,z,hφ,rfl⟩:=rm
     obtain ⟨b',z',es',hφ',hheap,hm⟩:=hW.obj _ _ hi
     rw [hφ] at hφ'; cases hφ'
     simp only [VR] at rs
     subst rs
     obtain ⟨e,he,rke,rve,rne⟩:=hm.get j k v0 n hj
     obtain ⟨hrun,hW'⟩:=hW.putMap (P:=P) hi hφ hheap (fs:=es.set j (k,v,n)) (fs':=es'.modify j fun e=>{ e with val:=uv }) (c':=clock) (by rw [modify_set es' j e _ he]; exact hm.set j rke rv rne)
     refine ⟨_,?_,hW'⟩
     have hfi':es'.findIdx? (fun e=>(e.born:Int) == born)=some j:=by
       rw [hm.findIdx] at hfi
       rw [<-hfi]
       obtain ⟨l⟩:=es'
       simp
     simp only [Instr.entryStore,Sem.run_bind,Result.andThen_ok,run_getMap hheap,asInt,asIntOf,Sem.run_pure,hfi',hrun]
   · cases h
 · cases h
end
end Go.Dv
