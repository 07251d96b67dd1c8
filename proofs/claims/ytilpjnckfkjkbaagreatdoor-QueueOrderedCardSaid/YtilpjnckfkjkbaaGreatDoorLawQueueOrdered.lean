/- The law QueueOrdered: Ordered and Waves return the documented results; for any queue; the row's variables laid as the program's text lays them (own work; the shell after the kit's template for rows). -/
import Derived.Test.YtilpjnckfkjkbaaGreatDoorU43
import Derived.Test.YtilpjnckfkjkbaaGreatDoorU44
import Derived.Test.YtilpjnckfkjkbaaGreatDoorRows
import Derived.Test.YtilpjnckfkjkbaaGreatDoorTie
import Derived.Test.YtilpjnckfkjkbaaGreatDoorCards
import Derived.WalkKit
import Derived.ProofKit
import Derived.OpenShut
import Derived.ChangeSame
import Derived.ChangeVars
import Derived.ChangeOld
import Derived.JoinedOf
import Derived.RowKit
import Derived.LaidLaws
import Derived.LaidHandle
import Derived.MakeChecks
import Derived.Lib.Space
import Derived.Deep.DeepLaidRun
import Derived.SevenTiedAt
open Option.some renaming inj→aB
open Go.Proofs.Tryz renaming prog→aa
open Go.Proofs.Tryz (f5 func5)
namespace Go.Proofs.YtilpjnckfkjkbaaGreatDoor.queueOrdered
open Go.ChangeShapes Go.WideShapes Go.ChangeAt Go.RowKit Go.Dv
set_option linter.unusedVariables false
set_option maxRecDepth 100000

theorem own:ownKnob aa.godebug=none:=by kernel_rfl
theorem laidOut:laidOutB aa=true:=by kernel_rfl
theorem abB:aa.underlying 4=some .bool:=by kernel_rfl
theorem abp {w:World} {base:Nat} {v:Value} (h:Value.okWide aa w .any base 29 v):∃ us,v=.agg us:=by
  have hu:∃ fs,aa.underlying 29=some (.struct fs):=by
    cases h:aa.underlying 29 with
    | none=>exact absurd (show (aa.underlying 29).isSome=true by kernel_rfl) (by rw [h]; decide)
    | some d =>
      have hd:(match aa.underlying 29 with | some (.struct _)=>true | _=>false)=true:=by kernel_rfl
      rw [h] at hd;cases d <;> first | exact ⟨_,rfl⟩ | cases hd
  obtain ⟨fs,hu⟩:=hu;obtain ⟨us,e,_⟩:=okWide_struct hu h;exact ⟨us,e⟩
theorem walk {H:Type} {enc:TypeId × Value->H} {W:World} {us:Array Value} {d0:DataW H} {p0:List MemPlace} (hL:laidMetH aa Rows.queueOrderedRow.laid W) (h0:DataW.Trod enc aa W 0 (fun _=>true) true 29 (.agg us) d0 p0) (hz0:∀ z∈d0.weights aa 29,z<=reachBytes):Calls aa 5 #[.agg us] W fun e W'=>e=.returned (.bool true)/\Below W.heap.size W W':=by have hp:oz 0 eG W (fun b=>b < W.heap.size):=U5 hL;have hk:0 < W.heap.size:=hp.1;obtain ⟨φ,G,vc,vm,vs,f,cs,m,ss,hG,hR,hc,hm,hs⟩:=Ik hk h0 hz0;obtain ⟨K,he⟩:=ev5 hc hm hs f;refine (DY (C:=C0) (show C0.pin W (fun b=>b < W.heap.size) from hp) 5 _ _ _ K he φ W #[.agg us] (by intro g i h; cases h) hG.wr (VRs.one hR)).mono fun e W' h=>?_;obtain ⟨ψ,u,_,rfl,hu,hW'⟩:=h;rw [show u=.bool true from hu];exact ⟨rfl,hW'.os,hW'.tape,hW'.output,hW'.size,hW'.old⟩

/-- A world that meets the row's condition: the settled one with two blocks more, the two variables holding what their initialisers lay. -/
noncomputable def z5 (os:Os):World:=
  let N:=(World.settled aa os).heap.size
  let w0:=World.holding aa os ⟨#[.cells (([9,13,1,32,133,101,160,5760,5600,8192,8202,1,8232,8233,1,8239,8287,48,12288,12288,1]:List Nat).map fun (z:Nat)=>Value.int .u16 (z:Int)).toArray 399,.cells #[.slice (some ⟨N,0,none⟩) 7 7,.slice none 0 0,.int .i64 2] 396],#[],[]⟩
  let put (h:Array Obj) (g:Nat) (cs:Array Value):Array Obj:=h.modify g fun
    | .cells _ t frozen=>.cells cs t frozen
    | o=>o
  { w0 with heap:=put (put w0.heap 0 (Lib.asciiSpaceTab.map fun z=>Value.int .u8 z).toArray) 1 #[.pointer (some ⟨N+1,0,none⟩)] }
theorem LL (os:Os) (args:Array Value):laidMetH aa Rows.queueOrderedRow.laid ((z5 os).forCall (fun _ _=>0) ⟨#[],args,[]⟩).memory:=by rw [MakeChecks.laidMetH_plain _ _ _ (by kernel_rfl)];exact laidMet_of_run3 10 (by kernel_rfl) (by kernel_rfl) (by kernel_rfl)
theorem QC:f5.params=#[29]:=by kernel_rfl
theorem params:f5.params.toList=[29]:=by kernel_rfl

theorem lifted (os:Os) (started:os.Started) (H:Type) (enc:TypeId × Value->H) :
    ReturnsInHanded {} Tryz.checked os 5 .any (fun w args=>(Rows.queueOrderedSpec.pre enc aa f5 Rows.queueOrderedRow.domain false w args/\laidMetH aa Rows.queueOrderedRow.laid w)/\sizedMet enc aa f5 (OpenSpec.ofChange Rows.queueOrderedSpec) false w args)
      (Rows.queueOrderedSpec.post enc aa f5 false true false false):=by
  refine returnsInHanded_of_change_and (C:=Tryz.checked) (X:=fun w _=>laidMetH aa Rows.queueOrderedRow.laid w) (fun _ _ _ hh h=>h.of_heap hh) own started (by kernel_rfl) func5
    (ChangeSpec.witness_shaped (enc:=enc) (C:=Tryz.checked) (os:=os) (X:=fun w _=>laidMetH aa Rows.queueOrderedRow.laid w) false (z5 os) #[.agg #[.slice none 0 0,.slice none 0 0,.slice none 0 0,.int .i64 0,.bool false,.int .i64 0,.int .i64 0,.int .i64 0,.int .i64 0,.int .i64 0]] 8 rfl (World.shaped_of_RefB (by kernel_rfl) (by kernel_rfl)) (by kernel_rfl) (by kernel_rfl) (by kernel_rfl) (LL os _)) ?_
  intro W base args ds gs before hval0 hW _ hsz0 hL _;have hsz:(DataW.weightsEach aa (f5.params.toList++Rows.queueOrderedSpec.plain.varTypes aa) (ds++gs)).all (·<=reachBytes)=true:=hsz0;have hval:∀ (j:Nat) t v,f5.params[j]? =some t->args[j]? =some v->Value.okWide aa W .any base t v:=hval0;have hW':=hW;obtain ⟨p,q,hA0,hV,rfl,hfz,hnd⟩:=hW;have hA:DataW.TrodAll enc aa W 0 (fun _=>true) true f5.params.toList args.toList ds p:=hA0;rw [params] at hA hsz;obtain ⟨v0,vs0,d0,ds0,p0,q0,hargs,rfl,rfl,h0,r0⟩:=trodAll_cons hA;obtain ⟨rfl,rfl,rfl⟩:=trodAll_nil r0;obtain rfl:args=#[v0]:=by cases args; simp_all
  obtain ⟨rfl,rfl⟩:=trodVars_none hV;obtain ⟨us,rfl⟩:=abp (hval 0 29 v0 rfl rfl);have k0:=h0;have lt0:∀ x∈p0,x.block < W.heap.size:=by obtain ⟨m,hm⟩:=k0; exact DataW.trod_lt m _ _ _ hm
  have z0:=Eb hsz (j:=0) rfl rfl;clear hA0 hval0 hsz0 hsz;refine (walk hL h0 z0).mono fun e W' ⟨he,bel⟩=>?_;subst he;exact ⟨_,rfl,_,_,_,[],_,[],hW',trodAll_mk1 (shut_bool abB _),(trodAll_cons_mk (Below.trod laidOut (by kernel_rfl) (of_decide_eq_true (by kernel_rfl)) k0 bel lt0) trodAll_mk0),rfl,bel.frame _,fun h=>by cases h⟩

theorem j0:(Rows.queueOrderedRow.wf (OpenSpec.ofChange Rows.queueOrderedSpec))=true:=by kernel_rfl
theorem j1:(laidOutB aa)=true:=by kernel_rfl
theorem j2:(mapsRowed aa)=true:=by kernel_rfl
theorem j3:(f5.params.all (aa.readableRec ·))=true:=by kernel_rfl
theorem j4:(namedTie aa Rows.queueOrderedRow.named Rows.queueOrderedSpec.vars)=true:=by kernel_rfl
theorem j5:((Rows.queueOrderedRow.stops == []))=true:=by kernel_rfl
theorem j6:((aa.stops == []))=true:=by kernel_rfl
theorem j7:((Rows.queueOrderedRow.knobs == []))=true:=by kernel_rfl
theorem j8:((aa.stopKnobs == []))=true:=by kernel_rfl
theorem j9:((Rows.queueOrderedRow.inPlace == aa.inPlace 5))=true:=by kernel_rfl
theorem j10:((Rows.queueOrderedRow.unfollowed == aa.unfollowed 5))=true:=by kernel_rfl
theorem j11:((Rows.queueOrderedRow.recurses == aa.recurses 5))=true:=by kernel_rfl
theorem j12:((Rows.queueOrderedRow.named == aa.varsNamed 5))=true:=by kernel_rfl
theorem j13:((Rows.queueOrderedRow.maps == (f5.params.toList++Rows.queueOrderedSpec.plain.varTypes aa).any (aa.mapsRec ·)))=true:=by kernel_rfl
theorem j14:((Rows.queueOrderedRow.ifaces == (f5.params.toList++Rows.queueOrderedSpec.plain.varTypes aa).any (aa.ifacesRec ·)))=true:=by kernel_rfl
theorem j15:((Rows.queueOrderedRow.mapsOut == aa.mapsAmong f5.resultTypes.toList))=true:=by kernel_rfl
theorem j16:((Rows.queueOrderedRow.loops == (f5.params.toList++Rows.queueOrderedSpec.plain.varTypes aa).any (aa.loopsFrom ·)))=true:=by kernel_rfl
theorem j17:((Rows.queueOrderedRow.wideKeys == (f5.params.toList++Rows.queueOrderedSpec.plain.varTypes aa++f5.resultTypes.toList).any (aa.wideKeysFrom ·)))=true:=by kernel_rfl
theorem j18:(Rows.queueOrderedSpec.vars.all (aa.varReadable ·))=true:=by kernel_rfl
theorem j19:(f5.resultTypes.all (fun t=>aa.readableRec t && decide (t < aa.types.size)))=true:=by kernel_rfl
theorem j20:((Rows.queueOrderedRow.ifacesOut == f5.resultTypes.toList.any (aa.ifacesRec ·)))=true:=by kernel_rfl
theorem j21:((Rows.queueOrderedRow.loopsOut == f5.resultTypes.toList.any (aa.loopsFrom ·)))=true:=by kernel_rfl
theorem j22:((Rows.queueOrderedRow.plainKeys == aa.plainKeys))=true:=by kernel_rfl
theorem j23:(Rows.queueOrderedRow.shortTexts.isNone)=true:=by kernel_rfl
theorem j24:(aa.stopsHeard)=true:=by kernel_rfl
theorem j25:(aa.mayEnter)=true:=by kernel_rfl
theorem j26:((Rows.queueOrderedRow.lifted == aa.liftsFinal))=true:=by kernel_rfl
theorem j27:((aa.make == some Rows.queueOrderedRow.make))=true:=by kernel_rfl
theorem j28:((Rows.queueOrderedRow.kinds == (if Rows.queueOrderedRow.domain.isEmpty then [] else f5.params.toList.map fun t=>match aa.underlying t with | some (.int k)=>some k | _=>none)))=true:=by kernel_rfl
theorem j29:((Rows.queueOrderedRow.pinned == Rows.queueOrderedRow.pinnedBy))=true:=by kernel_rfl
theorem j30:((Rows.queueOrderedRow.veiled == (f5.params.toList++Rows.queueOrderedSpec.plain.varTypes aa++f5.resultTypes.toList).any (aa.veiledRec ·)))=true:=by kernel_rfl
theorem j31:(Rows.queueOrderedRow.veiledFits aa f5.params.toList (f5.params.toList++Rows.queueOrderedSpec.plain.varTypes aa++f5.resultTypes.toList))=true:=by kernel_rfl
theorem jW {a b:Bool} (h:a=true) (k:b=true):(a && b)=true:=by rw [h,k]; rfl
theorem VF:joinedFacts aa 5 f5 Rows.queueOrderedSpec Rows.queueOrderedRow=true:=by unfold joinedFacts;exact jW (jW (jW (jW (jW (jW (jW (jW (jW (jW (jW (jW (jW (jW (jW (jW (jW (jW (jW (jW (jW (jW (jW (jW (jW (jW (jW (jW (jW (jW (jW (j0) j1) j2) j3) j4) j5) j6) j7) j8) j9) j10) j11) j12) j13) j14) j15) j16) j17) j18) j19) j20) j21) j22) j23) j24) j25) j26) j27) j28) j29) j30) j31

theorem q1:Rows.queueOrderedRow.wfByText (OpenSpec.ofChange Rows.queueOrderedSpec)=true:=by kernel_rfl
theorem q4:aa.mainIs=some (true,"9a4192f2e417525080bafe3403847736359a8d23cab8e207354b075960c50e0c".toList):=by kernel_rfl
theorem q5:aa.wantsStandIn 29=false:=by kernel_rfl
theorem q7:aa.funcNamed Rows.queueOrderedRow.func=some 5:=by kernel_rfl
theorem q3:false=Rows.queueOrderedRow.goesBy aa:=by kernel_rfl
theorem q2:true=aa.looks []:=by kernel_rfl
theorem over:Rows.queueOrderedRow.holds Tryz.pinned (OpenSpec.ofChange Rows.queueOrderedSpec):=
  OpenClaim.holds_of_wide 5 f5 rfl rfl rfl rfl rfl rfl rfl ⟨rfl,rfl,rfl,rfl,rfl⟩ rfl rfl rfl rfl rfl (by kernel_rfl) func5 VF
    (of_decide_eq_true (by kernel_rfl)) (by unfold Func.isWrapper; first | (rw [if_pos (by decide +kernel)]; kernel_rfl) | (rw [if_neg (by decide +kernel)]; exact ⟨rfl,rfl⟩))
    (fun os started H enc _=>lifted os started H enc)
end Go.Proofs.YtilpjnckfkjkbaaGreatDoor.queueOrdered
namespace Go.Proofs.YtilpjnckfkjkbaaGreatDoor
/-- The card: the row, its variables tied to the program's text. -/
theorem queueOrdered_holds:Rows.QueueOrderedCardSaid:=
  Claim7.holds_tied_plain_at .later [] [.listed,.data] true (true,"9a4192f2e417525080bafe3403847736359a8d23cab8e207354b075960c50e0c") true
    queueOrdered.over (fun _ h=>by cases h) queueOrdered.q1 (fun _ h=>by cases h) queueOrdered_row_tie rfl ⟨rfl,rfl⟩ queueOrdered.q4 rfl
    (fun f fn hf hfn=>by
      obtain rfl:f=5:=aB (queueOrdered.q7.symm.trans hf) |>.symm
      obtain rfl:fn=f5:=(aB (func5.symm.trans hfn)).symm
      exact ⟨queueOrdered.q2,fun j t ht=>by
        rw [queueOrdered.QC] at ht
        have h3:t=29:=by
          rcases j with _ | j
          · simpa using ht.symm
          · simp at ht
        subst h3
        exact queueOrdered.q5⟩)
    queueOrdered.q3
#print axioms queueOrdered_holds
end Go.Proofs.YtilpjnckfkjkbaaGreatDoor
