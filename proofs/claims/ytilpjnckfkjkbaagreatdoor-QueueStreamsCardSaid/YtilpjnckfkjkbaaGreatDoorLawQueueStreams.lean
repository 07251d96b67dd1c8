/- The law QueueStreams: with the streams in the opposite order Run counts the same and Ordered answers the same; where Ordered is true the memory ends equal; the row's variables laid as the program's text lays them (own work; the shell after the kit's template for rows). -/
import Derived.Test.YtilpjnckfkjkbaaGreatDoorS38
import Derived.Test.YtilpjnckfkjkbaaGreatDoorS39
import Derived.Test.YtilpjnckfkjkbaaGreatDoorRows
import Derived.Test.YtilpjnckfkjkbaaGreatDoorTie
import Derived.Test.YtilpjnckfkjkbaaGreatDoorCards
import Derived.WalkKit
import Derived.ProofKit
import Derived.OpenShut
import Derived.ChangeSame
import Derived.ChangeVars
import Derived.ChangeOld
import Derived.JoinedOf
import Derived.RowKit
import Derived.LaidLaws
import Derived.LaidHandle
import Derived.MakeChecks
import Derived.Lib.Space
import Derived.Deep.DeepLaidRun
import Derived.SevenTiedAt
open Option.some renaming inj→aC
open Go.Proofs.Tryz renaming prog→aa
namespace Go.Proofs.YtilpjnckfkjkbaaGreatDoor.queueStreams
open Go.ChangeShapes Go.WideShapes Go.ChangeAt Go.RowKit Go.Dv
set_option linter.unusedVariables false
set_option maxRecDepth 100000

theorem own:ownKnob aa.godebug=none:=by kernel_rfl
theorem laidOut:laidOutB aa=true:=by kernel_rfl
theorem XO:aa.underlying 4=some .bool:=by kernel_rfl
theorem XF {w:World} {base:Nat} {v:Value} (h:Value.okWide aa w .any base 29 v):∃ us,v=.agg us:=by
  have hu:∃ fs,aa.underlying 29=some (.struct fs):=by
    cases h:aa.underlying 29 with
    | none=>exact absurd (show (aa.underlying 29).isSome=true by kernel_rfl) (by rw [h]; decide)
    | some d =>
      have hd:(match aa.underlying 29 with | some (.struct _)=>true | _=>false)=true:=by kernel_rfl
      rw [h] at hd
      cases d <;> first | exact ⟨_,rfl⟩ | cases hd
  obtain ⟨fs,hu⟩:=hu
  obtain ⟨us,e,_⟩:=okWide_struct hu h
  exact ⟨us,e⟩
theorem walk {H:Type} {enc:TypeId × Value->H} {W:World} {us:Array Value} {d0:DataW H} {p0:List MemPlace} (hL:laidMetH aa Rows.queueStreamsRow.laid W) (h0:DataW.Trod enc aa W 0 (fun _=>true) true 29 (.agg us) d0 p0) (hz0:∀ z∈d0.weights aa 29,z<=reachBytes):Calls aa 7 #[.agg us] W fun e W'=>e=.returned (.bool true)/\Below W.heap.size W W':=by
  have hp:nT 0 d4 W (fun b=>b < W.heap.size):=Rw hL
  have hk:0 < W.heap.size:=hp.1
  obtain ⟨φ,G,vc,vm,vs,f,cs,m,ss,hG,hR,hc,hm,hs⟩:=Gr hk h0 hz0
  obtain ⟨K,he⟩:=ev7 hc hm hs f
  refine (CH (C:=C0) (show C0.pin W (fun b=>b < W.heap.size) from hp) 7 _ _ _ K he φ W #[.agg us] (by intro g i h; cases h) hG.wr (VRs.one hR)).mono fun e W' h=>?_
  obtain ⟨ψ,u,_,rfl,hu,hW'⟩:=h
  rw [show u=.bool true from hu]
  exact ⟨rfl,hW'.os,hW'.tape,hW'.output,hW'.size,hW'.old⟩

/-- A world that meets the row's condition: the settled one with two blocks more, the two variables holding what their initialisers lay. -/
noncomputable def yS (os:Os):World:=
  let N:=(World.settled aa os).heap.size
  let w0:=World.holding aa os ⟨#[.cells (([9,13,1,32,133,101,160,5760,5600,8192,8202,1,8232,8233,1,8239,8287,48,12288,12288,1]:List Nat).map fun (z:Nat)=>Value.int .u16 (z:Int)).toArray 399,.cells #[.slice (some ⟨N,0,none⟩) 7 7,.slice none 0 0,.int .i64 2] 396],#[],[]⟩
  let put (h:Array Obj) (g:Nat) (cs:Array Value):Array Obj:=h.modify g fun
    | .cells _ t frozen=>.cells cs t frozen
    | o=>o
  { w0 with heap:=put (put w0.heap 0 (Lib.asciiSpaceTab.map fun z=>Value.int .u8 z).toArray) 1 #[.pointer (some ⟨N+1,0,none⟩)] }
theorem Jo (os:Os) (args:Array Value):laidMetH aa Rows.queueStreamsRow.laid ((yS os).forCall (fun _ _=>0) ⟨#[],args,[]⟩).memory:=by
  rw [MakeChecks.laidMetH_plain _ _ _ (by kernel_rfl)]
  exact laidMet_of_run3 10 (by kernel_rfl) (by kernel_rfl) (by kernel_rfl)
theorem Oi:Tryz.f7.params=#[29]:=by kernel_rfl
theorem params:Tryz.f7.params.toList=[29]:=by kernel_rfl

theorem lifted (os:Os) (started:os.Started) (H:Type) (enc:TypeId × Value->H) :
    ReturnsInHanded {} Tryz.checked os 7 .any (fun w args=>(Rows.queueStreamsSpec.pre enc aa Tryz.f7 Rows.queueStreamsRow.domain false w args/\laidMetH aa Rows.queueStreamsRow.laid w)/\sizedMet enc aa Tryz.f7 (OpenSpec.ofChange Rows.queueStreamsSpec) false w args)
      (Rows.queueStreamsSpec.post enc aa Tryz.f7 false true false false):=by
  refine returnsInHanded_of_change_and (C:=Tryz.checked) (X:=fun w _=>laidMetH aa Rows.queueStreamsRow.laid w) (fun _ _ _ hh h=>h.of_heap hh) own started (by kernel_rfl) Tryz.func7
    (ChangeSpec.witness_shaped (enc:=enc) (C:=Tryz.checked) (os:=os) (X:=fun w _=>laidMetH aa Rows.queueStreamsRow.laid w) false (yS os) #[.agg #[.slice none 0 0,.slice none 0 0,.slice none 0 0,.int .i64 0,.bool false,.int .i64 0,.int .i64 0,.int .i64 0,.int .i64 0,.int .i64 0]] 8 rfl (World.shaped_of_RefB (by kernel_rfl) (by kernel_rfl)) (by kernel_rfl) (by kernel_rfl) (by kernel_rfl) (Jo os _)) ?_
  intro W base args ds gs before hval0 hW _ hsz0 hL _
  have hsz:(DataW.weightsEach aa (Tryz.f7.params.toList++Rows.queueStreamsSpec.plain.varTypes aa) (ds++gs)).all (·<=reachBytes)=true:=hsz0
  have hval:∀ (j:Nat) t v,Tryz.f7.params[j]? =some t->args[j]? =some v->Value.okWide aa W .any base t v:=hval0
  have hW':=hW
  obtain ⟨p,q,hA0,hV,rfl,hfz,hnd⟩:=hW
  have hA:DataW.TrodAll enc aa W 0 (fun _=>true) true Tryz.f7.params.toList args.toList ds p:=hA0
  rw [params] at hA hsz
  obtain ⟨v0,vs0,d0,ds0,p0,q0,hargs,rfl,rfl,h0,r0⟩:=trodAll_cons hA
  obtain ⟨rfl,rfl,rfl⟩:=trodAll_nil r0
  obtain rfl:args=#[v0]:=by cases args; simp_all
  obtain ⟨rfl,rfl⟩:=trodVars_none hV
  obtain ⟨us,rfl⟩:=XF (hval 0 29 v0 rfl rfl)
  have k0:=h0
  have lt0:∀ x∈p0,x.block < W.heap.size:=by obtain ⟨m,hm⟩:=k0; exact DataW.trod_lt m _ _ _ hm
  have z0:=CX hsz (j:=0) rfl rfl
  clear hA0 hval0 hsz0 hsz
  refine (walk hL h0 z0).mono fun e W' ⟨he,bel⟩=>?_
  subst he
  exact ⟨_,rfl,_,_,_,[],_,[],hW',trodAll_mk1 (shut_bool XO _),(trodAll_cons_mk (Below.trod laidOut (by kernel_rfl) (of_decide_eq_true (by kernel_rfl)) k0 bel lt0) trodAll_mk0),rfl,bel.frame _,fun h=>by cases h⟩

theorem j0:(Rows.queueStreamsRow.wf (OpenSpec.ofChange Rows.queueStreamsSpec))=true:=by kernel_rfl
theorem j1:(laidOutB aa)=true:=by kernel_rfl
theorem j2:(mapsRowed aa)=true:=by kernel_rfl
theorem j3:(Tryz.f7.params.all (aa.readableRec ·))=true:=by kernel_rfl
theorem j4:(namedTie aa Rows.queueStreamsRow.named Rows.queueStreamsSpec.vars)=true:=by kernel_rfl
theorem j5:((Rows.queueStreamsRow.stops == []))=true:=by kernel_rfl
theorem j6:((aa.stops == []))=true:=by kernel_rfl
theorem j7:((Rows.queueStreamsRow.knobs == []))=true:=by kernel_rfl
theorem j8:((aa.stopKnobs == []))=true:=by kernel_rfl
theorem j9:((Rows.queueStreamsRow.inPlace == aa.inPlace 7))=true:=by kernel_rfl
theorem j10:((Rows.queueStreamsRow.unfollowed == aa.unfollowed 7))=true:=by kernel_rfl
theorem j11:((Rows.queueStreamsRow.recurses == aa.recurses 7))=true:=by kernel_rfl
theorem j12:((Rows.queueStreamsRow.named == aa.varsNamed 7))=true:=by kernel_rfl
theorem j13:((Rows.queueStreamsRow.maps == (Tryz.f7.params.toList++Rows.queueStreamsSpec.plain.varTypes aa).any (aa.mapsRec ·)))=true:=by kernel_rfl
theorem j14:((Rows.queueStreamsRow.ifaces == (Tryz.f7.params.toList++Rows.queueStreamsSpec.plain.varTypes aa).any (aa.ifacesRec ·)))=true:=by kernel_rfl
theorem j15:((Rows.queueStreamsRow.mapsOut == aa.mapsAmong Tryz.f7.resultTypes.toList))=true:=by kernel_rfl
theorem j16:((Rows.queueStreamsRow.loops == (Tryz.f7.params.toList++Rows.queueStreamsSpec.plain.varTypes aa).any (aa.loopsFrom ·)))=true:=by kernel_rfl
theorem j17:((Rows.queueStreamsRow.wideKeys == (Tryz.f7.params.toList++Rows.queueStreamsSpec.plain.varTypes aa++Tryz.f7.resultTypes.toList).any (aa.wideKeysFrom ·)))=true:=by kernel_rfl
theorem j18:(Rows.queueStreamsSpec.vars.all (aa.varReadable ·))=true:=by kernel_rfl
theorem j19:(Tryz.f7.resultTypes.all (fun t=>aa.readableRec t && decide (t < aa.types.size)))=true:=by kernel_rfl
theorem j20:((Rows.queueStreamsRow.ifacesOut == Tryz.f7.resultTypes.toList.any (aa.ifacesRec ·)))=true:=by kernel_rfl
theorem j21:((Rows.queueStreamsRow.loopsOut == Tryz.f7.resultTypes.toList.any (aa.loopsFrom ·)))=true:=by kernel_rfl
theorem j22:((Rows.queueStreamsRow.plainKeys == aa.plainKeys))=true:=by kernel_rfl
theorem j23:(Rows.queueStreamsRow.shortTexts.isNone)=true:=by kernel_rfl
theorem j24:(aa.stopsHeard)=true:=by kernel_rfl
theorem j25:(aa.mayEnter)=true:=by kernel_rfl
theorem j26:((Rows.queueStreamsRow.lifted == aa.liftsFinal))=true:=by kernel_rfl
theorem j27:((aa.make == some Rows.queueStreamsRow.make))=true:=by kernel_rfl
theorem j28:((Rows.queueStreamsRow.kinds == (if Rows.queueStreamsRow.domain.isEmpty then [] else Tryz.f7.params.toList.map fun t=>match aa.underlying t with | some (.int k)=>some k | _=>none)))=true:=by kernel_rfl
theorem j29:((Rows.queueStreamsRow.pinned == Rows.queueStreamsRow.pinnedBy))=true:=by kernel_rfl
theorem j30:((Rows.queueStreamsRow.veiled == (Tryz.f7.params.toList++Rows.queueStreamsSpec.plain.varTypes aa++Tryz.f7.resultTypes.toList).any (aa.veiledRec ·)))=true:=by kernel_rfl
theorem j31:(Rows.queueStreamsRow.veiledFits aa Tryz.f7.params.toList (Tryz.f7.params.toList++Rows.queueStreamsSpec.plain.varTypes aa++Tryz.f7.resultTypes.toList))=true:=by kernel_rfl
theorem jD {a b:Bool} (h:a=true) (k:b=true):(a && b)=true:=by rw [h,k]; rfl
theorem Sm:joinedFacts aa 7 Tryz.f7 Rows.queueStreamsSpec Rows.queueStreamsRow=true:=by
  unfold joinedFacts
  exact jD (jD (jD (jD (jD (jD (jD (jD (jD (jD (jD (jD (jD (jD (jD (jD (jD (jD (jD (jD (jD (jD (jD (jD (jD (jD (jD (jD (jD (jD (jD (j0) j1) j2) j3) j4) j5) j6) j7) j8) j9) j10) j11) j12) j13) j14) j15) j16) j17) j18) j19) j20) j21) j22) j23) j24) j25) j26) j27) j28) j29) j30) j31

theorem q1:Rows.queueStreamsRow.wfByText (OpenSpec.ofChange Rows.queueStreamsSpec)=true:=by kernel_rfl
theorem q4:aa.mainIs=some (true,"9a4192f2e417525080bafe3403847736359a8d23cab8e207354b075960c50e0c".toList):=by kernel_rfl
theorem q5:aa.wantsStandIn 29=false:=by kernel_rfl
theorem q7:aa.funcNamed Rows.queueStreamsRow.func=some 7:=by kernel_rfl
theorem q3:false=Rows.queueStreamsRow.goesBy aa:=by kernel_rfl
theorem q2:true=aa.looks []:=by kernel_rfl
theorem over:Rows.queueStreamsRow.holds Tryz.pinned (OpenSpec.ofChange Rows.queueStreamsSpec):=
  OpenClaim.holds_of_wide 7 Tryz.f7 rfl rfl rfl rfl rfl rfl rfl ⟨rfl,rfl,rfl,rfl,rfl⟩ rfl rfl rfl rfl rfl (by kernel_rfl) Tryz.func7 Sm
    (of_decide_eq_true (by kernel_rfl)) (by unfold Func.isWrapper; first | (rw [if_pos (by decide +kernel)]; kernel_rfl) | (rw [if_neg (by decide +kernel)]; exact ⟨rfl,rfl⟩))
    (fun os started H enc _=>lifted os started H enc)
end Go.Proofs.YtilpjnckfkjkbaaGreatDoor.queueStreams
namespace Go.Proofs.YtilpjnckfkjkbaaGreatDoor
/-- The card: the row, its variables tied to the program's text. -/
theorem queueStreams_holds:Rows.QueueStreamsCardSaid:=
  Claim7.holds_tied_plain_at .later [] [.listed,.data] true (true,"9a4192f2e417525080bafe3403847736359a8d23cab8e207354b075960c50e0c") true
    queueStreams.over (fun _ h=>by cases h) queueStreams.q1 (fun _ h=>by cases h) queueStreams_row_tie rfl ⟨rfl,rfl⟩ queueStreams.q4 rfl
    (fun f fn hf hfn=>by
      obtain rfl:f=7:=aC (queueStreams.q7.symm.trans hf) |>.symm
      obtain rfl:fn=Tryz.f7:=(aC (Tryz.func7.symm.trans hfn)).symm
      exact ⟨queueStreams.q2,fun j t ht=>by
        rw [queueStreams.Oi] at ht
        have h3:t=29:=by
          rcases j with _ | j
          · simpa using ht.symm
          · simp at ht
        subst h3
        exact queueStreams.q5⟩)
    queueStreams.q3
#print axioms queueStreams_holds
end Go.Proofs.YtilpjnckfkjkbaaGreatDoor
