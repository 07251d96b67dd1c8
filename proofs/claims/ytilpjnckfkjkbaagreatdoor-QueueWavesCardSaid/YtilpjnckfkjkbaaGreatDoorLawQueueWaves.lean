/- The law QueueWaves: items of one wave of an ordered queue do not touch, and an item is in a later wave than all items before it; for any queue; the row's variables laid as the program's text lays them (own work; the shell after the kit's template for rows). -/
import Derived.Test.YtilpjnckfkjkbaaGreatDoorT40
import Derived.Test.YtilpjnckfkjkbaaGreatDoorT41
import Derived.Test.YtilpjnckfkjkbaaGreatDoorRows
import Derived.Test.YtilpjnckfkjkbaaGreatDoorTie
import Derived.Test.YtilpjnckfkjkbaaGreatDoorCards
import Derived.WalkKit
import Derived.ProofKit
import Derived.OpenShut
import Derived.ChangeSame
import Derived.ChangeVars
import Derived.ChangeOld
import Derived.JoinedOf
import Derived.RowKit
import Derived.LaidLaws
import Derived.LaidHandle
import Derived.MakeChecks
import Derived.Lib.Space
import Derived.Deep.DeepLaidRun
import Derived.SevenTiedAt
open Option.some renaming inj→aE
open Go.Proofs.Tryz renaming prog→aa
namespace Go.Proofs.YtilpjnckfkjkbaaGreatDoor.queueWaves
open Go.ChangeShapes Go.WideShapes Go.ChangeAt Go.RowKit Go.Dv
set_option linter.unusedVariables false
set_option maxRecDepth 100000

theorem own:ownKnob aa.godebug=none:=by kernel_rfl
theorem laidOut:laidOutB aa=true:=by kernel_rfl
theorem aai:aa.underlying 4=some .bool:=by kernel_rfl
theorem Z7 {w:World} {base:Nat} {v:Value} (h:Value.okWide aa w .any base 29 v):∃ us,v=.agg us:=by
  have hu:∃ fs,aa.underlying 29=some (.struct fs):=by
    cases h:aa.underlying 29 with
    | none=>exact absurd (show (aa.underlying 29).isSome=true by kernel_rfl) (by rw [h]; decide)
    | some d =>
      have hd:(match aa.underlying 29 with | some (.struct _)=>true | _=>false)=true:=by kernel_rfl
      rw [h] at hd
      cases d <;> first | exact ⟨_,rfl⟩ | cases hd
  obtain ⟨fs,hu⟩:=hu
  obtain ⟨us,e,_⟩:=okWide_struct hu h
  exact ⟨us,e⟩
theorem walk {H:Type} {enc:TypeId × Value->H} {W:World} {us:Array Value} {d0:DataW H} {p0:List MemPlace} (hL:laidMetH aa Rows.queueWavesRow.laid W) (h0:DataW.Trod enc aa W 0 (fun _=>true) true 29 (.agg us) d0 p0) (hz0:∀ z∈d0.weights aa 29,z<=reachBytes):Calls aa 6 #[.agg us] W fun e W'=>e=.returned (.bool true)/\Below W.heap.size W W':=by
  have hp:oe 0 eA W (fun b=>b < W.heap.size):=TN hL
  have hk:0 < W.heap.size:=hp.1
  obtain ⟨φ,G,vc,vm,vs,f,cs,m,ss,hG,hR,hc,hm,hs⟩:=Ht hk h0 hz0
  obtain ⟨K,he⟩:=ev6 hc hm hs f
  refine (Dw (C:=C0) (show C0.pin W (fun b=>b < W.heap.size) from hp) 6 _ _ _ K he φ W #[.agg us] (by intro g i h; cases h) hG.wr (VRs.one hR)).mono fun e W' h=>?_
  obtain ⟨ψ,u,_,rfl,hu,hW'⟩:=h
  rw [show u=.bool true from hu]
  exact ⟨rfl,hW'.os,hW'.tape,hW'.output,hW'.size,hW'.old⟩

/-- A world that meets the row's condition: the settled one with two blocks more, the two variables holding what their initialisers lay. -/
noncomputable def zO (os:Os):World:=
  let N:=(World.settled aa os).heap.size
  let w0:=World.holding aa os ⟨#[.cells (([9,13,1,32,133,101,160,5760,5600,8192,8202,1,8232,8233,1,8239,8287,48,12288,12288,1]:List Nat).map fun (z:Nat)=>Value.int .u16 (z:Int)).toArray 399,.cells #[.slice (some ⟨N,0,none⟩) 7 7,.slice none 0 0,.int .i64 2] 396],#[],[]⟩
  let put (h:Array Obj) (g:Nat) (cs:Array Value):Array Obj:=h.modify g fun
    | .cells _ t frozen=>.cells cs t frozen
    | o=>o
  { w0 with heap:=put (put w0.heap 0 (Lib.asciiSpaceTab.map fun z=>Value.int .u8 z).toArray) 1 #[.pointer (some ⟨N+1,0,none⟩)] }
theorem Kz (os:Os) (args:Array Value):laidMetH aa Rows.queueWavesRow.laid ((zO os).forCall (fun _ _=>0) ⟨#[],args,[]⟩).memory:=by
  rw [MakeChecks.laidMetH_plain _ _ _ (by kernel_rfl)]
  exact laidMet_of_run3 10 (by kernel_rfl) (by kernel_rfl) (by kernel_rfl)
theorem Pq:Tryz.f6.params=#[29]:=by kernel_rfl
theorem params:Tryz.f6.params.toList=[29]:=by kernel_rfl

theorem lifted (os:Os) (started:os.Started) (H:Type) (enc:TypeId × Value->H) :
    ReturnsInHanded {} Tryz.checked os 6 .any (fun w args=>(Rows.queueWavesSpec.pre enc aa Tryz.f6 Rows.queueWavesRow.domain false w args/\laidMetH aa Rows.queueWavesRow.laid w)/\sizedMet enc aa Tryz.f6 (OpenSpec.ofChange Rows.queueWavesSpec) false w args)
      (Rows.queueWavesSpec.post enc aa Tryz.f6 false true false false):=by
  refine returnsInHanded_of_change_and (C:=Tryz.checked) (X:=fun w _=>laidMetH aa Rows.queueWavesRow.laid w) (fun _ _ _ hh h=>h.of_heap hh) own started (by kernel_rfl) Tryz.func6
    (ChangeSpec.witness_shaped (enc:=enc) (C:=Tryz.checked) (os:=os) (X:=fun w _=>laidMetH aa Rows.queueWavesRow.laid w) false (zO os) #[.agg #[.slice none 0 0,.slice none 0 0,.slice none 0 0,.int .i64 0,.bool false,.int .i64 0,.int .i64 0,.int .i64 0,.int .i64 0,.int .i64 0]] 8 rfl (World.shaped_of_RefB (by kernel_rfl) (by kernel_rfl)) (by kernel_rfl) (by kernel_rfl) (by kernel_rfl) (Kz os _)) ?_
  intro W base args ds gs before hval0 hW _ hsz0 hL _
  have hsz:(DataW.weightsEach aa (Tryz.f6.params.toList++Rows.queueWavesSpec.plain.varTypes aa) (ds++gs)).all (·<=reachBytes)=true:=hsz0
  have hval:∀ (j:Nat) t v,Tryz.f6.params[j]? =some t->args[j]? =some v->Value.okWide aa W .any base t v:=hval0
  have hW':=hW
  obtain ⟨p,q,hA0,hV,rfl,hfz,hnd⟩:=hW
  have hA:DataW.TrodAll enc aa W 0 (fun _=>true) true Tryz.f6.params.toList args.toList ds p:=hA0
  rw [params] at hA hsz
  obtain ⟨v0,vs0,d0,ds0,p0,q0,hargs,rfl,rfl,h0,r0⟩:=trodAll_cons hA
  obtain ⟨rfl,rfl,rfl⟩:=trodAll_nil r0
  obtain rfl:args=#[v0]:=by cases args; simp_all
  obtain ⟨rfl,rfl⟩:=trodVars_none hV
  obtain ⟨us,rfl⟩:=Z7 (hval 0 29 v0 rfl rfl)
  have k0:=h0
  have lt0:∀ x∈p0,x.block < W.heap.size:=by obtain ⟨m,hm⟩:=k0; exact DataW.trod_lt m _ _ _ hm
  have z0:=DK hsz (j:=0) rfl rfl
  clear hA0 hval0 hsz0 hsz
  refine (walk hL h0 z0).mono fun e W' ⟨he,bel⟩=>?_
  subst he
  exact ⟨_,rfl,_,_,_,[],_,[],hW',trodAll_mk1 (shut_bool aai _),(trodAll_cons_mk (Below.trod laidOut (by kernel_rfl) (of_decide_eq_true (by kernel_rfl)) k0 bel lt0) trodAll_mk0),rfl,bel.frame _,fun h=>by cases h⟩

theorem j0:(Rows.queueWavesRow.wf (OpenSpec.ofChange Rows.queueWavesSpec))=true:=by kernel_rfl
theorem j1:(laidOutB aa)=true:=by kernel_rfl
theorem j2:(mapsRowed aa)=true:=by kernel_rfl
theorem j3:(Tryz.f6.params.all (aa.readableRec ·))=true:=by kernel_rfl
theorem j4:(namedTie aa Rows.queueWavesRow.named Rows.queueWavesSpec.vars)=true:=by kernel_rfl
theorem j5:((Rows.queueWavesRow.stops == []))=true:=by kernel_rfl
theorem j6:((aa.stops == []))=true:=by kernel_rfl
theorem j7:((Rows.queueWavesRow.knobs == []))=true:=by kernel_rfl
theorem j8:((aa.stopKnobs == []))=true:=by kernel_rfl
theorem j9:((Rows.queueWavesRow.inPlace == aa.inPlace 6))=true:=by kernel_rfl
theorem j10:((Rows.queueWavesRow.unfollowed == aa.unfollowed 6))=true:=by kernel_rfl
theorem j11:((Rows.queueWavesRow.recurses == aa.recurses 6))=true:=by kernel_rfl
theorem j12:((Rows.queueWavesRow.named == aa.varsNamed 6))=true:=by kernel_rfl
theorem j13:((Rows.queueWavesRow.maps == (Tryz.f6.params.toList++Rows.queueWavesSpec.plain.varTypes aa).any (aa.mapsRec ·)))=true:=by kernel_rfl
theorem j14:((Rows.queueWavesRow.ifaces == (Tryz.f6.params.toList++Rows.queueWavesSpec.plain.varTypes aa).any (aa.ifacesRec ·)))=true:=by kernel_rfl
theorem j15:((Rows.queueWavesRow.mapsOut == aa.mapsAmong Tryz.f6.resultTypes.toList))=true:=by kernel_rfl
theorem j16:((Rows.queueWavesRow.loops == (Tryz.f6.params.toList++Rows.queueWavesSpec.plain.varTypes aa).any (aa.loopsFrom ·)))=true:=by kernel_rfl
theorem j17:((Rows.queueWavesRow.wideKeys == (Tryz.f6.params.toList++Rows.queueWavesSpec.plain.varTypes aa++Tryz.f6.resultTypes.toList).any (aa.wideKeysFrom ·)))=true:=by kernel_rfl
theorem j18:(Rows.queueWavesSpec.vars.all (aa.varReadable ·))=true:=by kernel_rfl
theorem j19:(Tryz.f6.resultTypes.all (fun t=>aa.readableRec t && decide (t < aa.types.size)))=true:=by kernel_rfl
theorem j20:((Rows.queueWavesRow.ifacesOut == Tryz.f6.resultTypes.toList.any (aa.ifacesRec ·)))=true:=by kernel_rfl
theorem j21:((Rows.queueWavesRow.loopsOut == Tryz.f6.resultTypes.toList.any (aa.loopsFrom ·)))=true:=by kernel_rfl
theorem j22:((Rows.queueWavesRow.plainKeys == aa.plainKeys))=true:=by kernel_rfl
theorem j23:(Rows.queueWavesRow.shortTexts.isNone)=true:=by kernel_rfl
theorem j24:(aa.stopsHeard)=true:=by kernel_rfl
theorem j25:(aa.mayEnter)=true:=by kernel_rfl
theorem j26:((Rows.queueWavesRow.lifted == aa.liftsFinal))=true:=by kernel_rfl
theorem j27:((aa.make == some Rows.queueWavesRow.make))=true:=by kernel_rfl
theorem j28:((Rows.queueWavesRow.kinds == (if Rows.queueWavesRow.domain.isEmpty then [] else Tryz.f6.params.toList.map fun t=>match aa.underlying t with | some (.int k)=>some k | _=>none)))=true:=by kernel_rfl
theorem j29:((Rows.queueWavesRow.pinned == Rows.queueWavesRow.pinnedBy))=true:=by kernel_rfl
theorem j30:((Rows.queueWavesRow.veiled == (Tryz.f6.params.toList++Rows.queueWavesSpec.plain.varTypes aa++Tryz.f6.resultTypes.toList).any (aa.veiledRec ·)))=true:=by kernel_rfl
theorem j31:(Rows.queueWavesRow.veiledFits aa Tryz.f6.params.toList (Tryz.f6.params.toList++Rows.queueWavesSpec.plain.varTypes aa++Tryz.f6.resultTypes.toList))=true:=by kernel_rfl
theorem jQ {a b:Bool} (h:a=true) (k:b=true):(a && b)=true:=by rw [h,k]; rfl
theorem Uu:joinedFacts aa 6 Tryz.f6 Rows.queueWavesSpec Rows.queueWavesRow=true:=by
  unfold joinedFacts
  exact jQ (jQ (jQ (jQ (jQ (jQ (jQ (jQ (jQ (jQ (jQ (jQ (jQ (jQ (jQ (jQ (jQ (jQ (jQ (jQ (jQ (jQ (jQ (jQ (jQ (jQ (jQ (jQ (jQ (jQ (jQ (j0) j1) j2) j3) j4) j5) j6) j7) j8) j9) j10) j11) j12) j13) j14) j15) j16) j17) j18) j19) j20) j21) j22) j23) j24) j25) j26) j27) j28) j29) j30) j31

theorem q1:Rows.queueWavesRow.wfByText (OpenSpec.ofChange Rows.queueWavesSpec)=true:=by kernel_rfl
theorem q4:aa.mainIs=some (true,"9a4192f2e417525080bafe3403847736359a8d23cab8e207354b075960c50e0c".toList):=by kernel_rfl
theorem q5:aa.wantsStandIn 29=false:=by kernel_rfl
theorem q7:aa.funcNamed Rows.queueWavesRow.func=some 6:=by kernel_rfl
theorem q3:false=Rows.queueWavesRow.goesBy aa:=by kernel_rfl
theorem q2:true=aa.looks []:=by kernel_rfl
theorem over:Rows.queueWavesRow.holds Tryz.pinned (OpenSpec.ofChange Rows.queueWavesSpec):=
  OpenClaim.holds_of_wide 6 Tryz.f6 rfl rfl rfl rfl rfl rfl rfl ⟨rfl,rfl,rfl,rfl,rfl⟩ rfl rfl rfl rfl rfl (by kernel_rfl) Tryz.func6 Uu
    (of_decide_eq_true (by kernel_rfl)) (by unfold Func.isWrapper; first | (rw [if_pos (by decide +kernel)]; kernel_rfl) | (rw [if_neg (by decide +kernel)]; exact ⟨rfl,rfl⟩))
    (fun os started H enc _=>lifted os started H enc)
end Go.Proofs.YtilpjnckfkjkbaaGreatDoor.queueWaves
namespace Go.Proofs.YtilpjnckfkjkbaaGreatDoor
/-- The card: the row, its variables tied to the program's text. -/
theorem queueWaves_holds:Rows.QueueWavesCardSaid:=
  Claim7.holds_tied_plain_at .later [] [.listed,.data] true (true,"9a4192f2e417525080bafe3403847736359a8d23cab8e207354b075960c50e0c") true
    queueWaves.over (fun _ h=>by cases h) queueWaves.q1 (fun _ h=>by cases h) queueWaves_row_tie rfl ⟨rfl,rfl⟩ queueWaves.q4 rfl
    (fun f fn hf hfn=>by
      obtain rfl:f=6:=aE (queueWaves.q7.symm.trans hf) |>.symm
      obtain rfl:fn=Tryz.f6:=(aE (Tryz.func6.symm.trans hfn)).symm
      exact ⟨queueWaves.q2,fun j t ht=>by
        rw [queueWaves.Pq] at ht
        have h3:t=29:=by
          rcases j with _ | j
          · simpa using ht.symm
          · simp at ht
        subst h3
        exact queueWaves.q5⟩)
    queueWaves.q3
#print axioms queueWaves_holds
end Go.Proofs.YtilpjnckfkjkbaaGreatDoor
