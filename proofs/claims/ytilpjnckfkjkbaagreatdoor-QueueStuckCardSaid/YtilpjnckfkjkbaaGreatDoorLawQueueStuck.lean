/- The law QueueStuck: whether a queue without launches ends with ErrStuck, and how many items of each stream are left then, does not depend on the turns; the row's variables laid as the program's text lays them (own work; the shell after the kit's template for rows). -/
import Derived.Test.YtilpjnckfkjkbaaGreatDoorZ34
import Derived.Test.YtilpjnckfkjkbaaGreatDoorZ35
import Derived.Test.YtilpjnckfkjkbaaGreatDoorRows
import Derived.Test.YtilpjnckfkjkbaaGreatDoorTie
import Derived.Test.YtilpjnckfkjkbaaGreatDoorCards
import Derived.WalkKit
import Derived.ProofKit
import Derived.OpenShut
import Derived.ChangeSame
import Derived.ChangeVars
import Derived.ChangeOld
import Derived.JoinedOf
import Derived.RowKit
import Derived.LaidLaws
import Derived.LaidHandle
import Derived.MakeChecks
import Derived.Lib.Space
import Derived.Deep.DeepLaidRun
import Derived.SevenTiedAt
namespace Go.Proofs.YtilpjnckfkjkbaaGreatDoor.queueStuck
open Go.ChangeShapes Go.WideShapes Go.ChangeAt Go.RowKit Go.Dv
set_option linter.unusedVariables false
set_option maxRecDepth 100000

theorem own:ownKnob Tryz.prog.godebug=none:=by kernel_rfl
theorem laidOut:laidOutB Tryz.prog=true:=by kernel_rfl
theorem und30:Tryz.prog.underlying 30=some (.slice 3):=by kernel_rfl
theorem und4:Tryz.prog.underlying 4=some .bool:=by kernel_rfl
theorem agg29 {w:World} {base:Nat} {v:Value} (h:Value.okWide Tryz.prog w .any base 29 v):∃ us,v=.agg us:=by
  have hu:∃ fs,Tryz.prog.underlying 29=some (.struct fs):=by
    cases h:Tryz.prog.underlying 29 with
    | none=>exact absurd (show (Tryz.prog.underlying 29).isSome=true by kernel_rfl) (by rw [h]; decide)
    | some d =>
      have hd:(match Tryz.prog.underlying 29 with | some (.struct _)=>true | _=>false)=true:=by kernel_rfl
      rw [h] at hd
      cases d <;> first | exact ⟨_,rfl⟩ | cases hd
  obtain ⟨fs,hu⟩:=hu
  obtain ⟨us,e,_⟩:=okWide_struct hu h
  exact ⟨us,e⟩
theorem walk {H:Type} {enc:TypeId × Value->H} {W:World} {us:Array Value} {v1 v2:Value} {d0 d1 d2:DataW H} {p0 p1 p2:List MemPlace} (hL:laidMetH Tryz.prog Rows.queueStuckRow.laid W) (h0:DataW.Trod enc Tryz.prog W 0 (fun _=>true) true 29 (.agg us) d0 p0) (h1:DataW.Trod enc Tryz.prog W 0 (fun _=>true) true 30 v1 d1 p1) (hv:v1.cells.toList=[v1]) (h2:DataW.Trod enc Tryz.prog W 0 (fun _=>true) true 30 v2 d2 p2) (hv2:v2.cells.toList=[v2])
    (hz0:∀ z∈d0.weights Tryz.prog 29,z<=reachBytes) (hz1:∀ z∈d1.weights Tryz.prog 30,z<=reachBytes) (hz2:∀ z∈d2.weights Tryz.prog 30,z<=reachBytes):Calls Tryz.prog 3 #[.agg us,v1,v2] W fun e W'=>e=.returned (.bool true)/\Below W.heap.size W W':=by
  have hp:PinAt 0 tabCs W (fun b=>b < W.heap.size):=pin_of hL
  have hk:0 < W.heap.size:=hp.1
  obtain ⟨φ,G,vc,vm,vs,f,cs,m,ss,hG,hR,hc,hm,hs,hb1,hb2⟩:=big_plan hk h0 hz0
  obtain ⟨φ1,L1,w1,t1,hG1,hle1,hw1,ht1,hl1⟩:=open_turns hG hk h1 hz1 hv
  obtain ⟨φ2,L2,w2,t2,hG2,hle2,hw2,ht2,hl2⟩:=open_turns hG1 hk h2 hz2 hv2
  have hA:=(Agree.app G L1).trans (Agree.app (G++L1) L2)
  obtain ⟨K,he⟩:=ev3 (hc.agree hA) (hm.agree hA) (hs.agree hA) f (ht1.same (Agree.app (G++L1) L2)) hl1 ht2 hl2 (fun n hn=>grow_r b31b hb1 hn) (fun i hi n hn=>grow_r b34b (hb2 _ (strAt_mem hi)) hn)
  refine (Ev_sound (C:=C0) (show C0.pin W (fun b=>b < W.heap.size) from hp) 3 _ _ _ K he φ2 W #[.agg us,v1,v2] (by intro g i h; cases h) hG2.wr (VRs.cons (VR.mono hle2 _ _ (VR.mono hle1 _ _ hR)) (VRs.cons (VR.mono hle2 _ _ hw1) (VRs.one hw2)))).mono fun e W' h=>?_
  obtain ⟨ψ,u,_,rfl,hu,hW'⟩:=h
  rw [show u=.bool true from hu]
  exact ⟨rfl,hW'.os,hW'.tape,hW'.output,hW'.size,hW'.old⟩

/-- A world that meets the row's condition: the settled one with two blocks more, the two variables holding what their initialisers lay. -/
noncomputable def laidWorld (os:Os):World:=
  let N:=(World.settled Tryz.prog os).heap.size
  let w0:=World.holding Tryz.prog os ⟨#[.cells (([9,13,1,32,133,101,160,5760,5600,8192,8202,1,8232,8233,1,8239,8287,48,12288,12288,1]:List Nat).map fun (z:Nat)=>Value.int .u16 (z:Int)).toArray 399,.cells #[.slice (some ⟨N,0,none⟩) 7 7,.slice none 0 0,.int .i64 2] 396],#[],[]⟩
  let put (h:Array Obj) (g:Nat) (cs:Array Value):Array Obj:=h.modify g fun
    | .cells _ t frozen=>.cells cs t frozen
    | o=>o
  { w0 with heap:=put (put w0.heap 0 (Lib.asciiSpaceTab.map fun z=>Value.int .u8 z).toArray) 1 #[.pointer (some ⟨N+1,0,none⟩)] }
theorem laid_met (os:Os) (args:Array Value):laidMetH Tryz.prog Rows.queueStuckRow.laid ((laidWorld os).forCall (fun _ _=>0) ⟨#[],args,[]⟩).memory:=by
  rw [MakeChecks.laidMetH_plain _ _ _ (by kernel_rfl)]
  exact laidMet_of_run3 10 (by kernel_rfl) (by kernel_rfl) (by kernel_rfl)
theorem params':Tryz.f3.params=#[29,30,30]:=by kernel_rfl
theorem params:Tryz.f3.params.toList=[29,30,30]:=by kernel_rfl

theorem lifted (os:Os) (started:os.Started) (H:Type) (enc:TypeId × Value->H) :
    ReturnsInHanded {} Tryz.checked os 3 .any (fun w args=>(Rows.queueStuckSpec.pre enc Tryz.prog Tryz.f3 Rows.queueStuckRow.domain false w args/\laidMetH Tryz.prog Rows.queueStuckRow.laid w)/\sizedMet enc Tryz.prog Tryz.f3 (OpenSpec.ofChange Rows.queueStuckSpec) false w args)
      (Rows.queueStuckSpec.post enc Tryz.prog Tryz.f3 false true false false):=by
  refine returnsInHanded_of_change_and (C:=Tryz.checked) (X:=fun w _=>laidMetH Tryz.prog Rows.queueStuckRow.laid w) (fun _ _ _ hh h=>h.of_heap hh) own started (by kernel_rfl) Tryz.func3
    (ChangeSpec.witness_shaped (enc:=enc) (C:=Tryz.checked) (os:=os) (X:=fun w _=>laidMetH Tryz.prog Rows.queueStuckRow.laid w) false (laidWorld os) #[.agg #[.slice none 0 0,.slice none 0 0,.slice none 0 0,.int .i64 0,.bool false,.int .i64 0,.int .i64 0,.int .i64 0,.int .i64 0,.int .i64 0],.slice none 0 0,.slice none 0 0] 8 rfl (World.shaped_of_RefB (by kernel_rfl) (by kernel_rfl)) (by kernel_rfl) (by kernel_rfl) (by kernel_rfl) (laid_met os _)) ?_
  intro W base args ds gs before hval0 hW _ hsz0 hL _
  have hsz:(DataW.weightsEach Tryz.prog (Tryz.f3.params.toList++Rows.queueStuckSpec.plain.varTypes Tryz.prog) (ds++gs)).all (·<=reachBytes)=true:=hsz0
  have hval:∀ (j:Nat) t v,Tryz.f3.params[j]? =some t->args[j]? =some v->Value.okWide Tryz.prog W .any base t v:=hval0
  have hW':=hW
  obtain ⟨p,q,hA0,hV,rfl,hfz,hnd⟩:=hW
  have hA:DataW.TrodAll enc Tryz.prog W 0 (fun _=>true) true Tryz.f3.params.toList args.toList ds p:=hA0
  rw [params] at hA hsz
  obtain ⟨v0,vs0,d0,ds0,p0,q0,hargs,rfl,rfl,h0,r0⟩:=trodAll_cons hA
  obtain ⟨v1,vs1,d1,ds1,p1,q1,hargs1,rfl,rfl,h1,r1⟩:=trodAll_cons r0
  obtain ⟨v2,vs2,d2,ds2,p2,q2,hargs2,rfl,rfl,h2,r2⟩:=trodAll_cons r1
  obtain ⟨rfl,rfl,rfl⟩:=trodAll_nil r2
  obtain rfl:args=#[v0,v1,v2]:=by cases args; simp_all
  obtain ⟨rfl,rfl⟩:=trodVars_none hV
  obtain ⟨us,rfl⟩:=agg29 (hval 0 29 v0 rfl rfl)
  obtain ⟨a1,len1,cap1,rfl⟩:=okWide_slice und30 (hval 1 30 v1 rfl rfl)
  obtain ⟨a2,len2,cap2,rfl⟩:=okWide_slice und30 (hval 2 30 v2 rfl rfl)
  have k0:=h0
  have lt0:∀ x∈p0,x.block < W.heap.size:=by obtain ⟨m,hm⟩:=k0; exact DataW.trod_lt m _ _ _ hm
  have k1:=h1
  have lt1:∀ x∈p1,x.block < W.heap.size:=by obtain ⟨m,hm⟩:=k1; exact DataW.trod_lt m _ _ _ hm
  have k2:=h2
  have lt2:∀ x∈p2,x.block < W.heap.size:=by obtain ⟨m,hm⟩:=k2; exact DataW.trod_lt m _ _ _ hm
  have z2:=weight_arg hsz (j:=2) rfl rfl
  have z0:=weight_arg hsz (j:=0) rfl rfl
  have z1:=weight_arg hsz (j:=1) rfl rfl
  clear hA0 hval0 hsz0 hsz
  refine (walk hL h0 h1 rfl h2 rfl z0 z1 z2).mono fun e W' ⟨he,bel⟩=>?_
  subst he
  exact ⟨_,rfl,_,_,_,[],_,[],hW',trodAll_mk1 (shut_bool und4 _),(trodAll_cons_mk (Below.trod laidOut (by kernel_rfl) (of_decide_eq_true (by kernel_rfl)) k0 bel lt0) (trodAll_cons_mk (Below.trod laidOut (by kernel_rfl) (of_decide_eq_true (by kernel_rfl)) k1 bel lt1) (trodAll_cons_mk (Below.trod laidOut (by kernel_rfl) (of_decide_eq_true (by kernel_rfl)) k2 bel lt2) trodAll_mk0))),rfl,bel.frame _,fun h=>by cases h⟩

theorem j0:(Rows.queueStuckRow.wf (OpenSpec.ofChange Rows.queueStuckSpec))=true:=by kernel_rfl
theorem j1:(laidOutB Tryz.prog)=true:=by kernel_rfl
theorem j2:(mapsRowed Tryz.prog)=true:=by kernel_rfl
theorem j3:(Tryz.f3.params.all (Tryz.prog.readableRec ·))=true:=by kernel_rfl
theorem j4:(namedTie Tryz.prog Rows.queueStuckRow.named Rows.queueStuckSpec.vars)=true:=by kernel_rfl
theorem j5:((Rows.queueStuckRow.stops == []))=true:=by kernel_rfl
theorem j6:((Tryz.prog.stops == []))=true:=by kernel_rfl
theorem j7:((Rows.queueStuckRow.knobs == []))=true:=by kernel_rfl
theorem j8:((Tryz.prog.stopKnobs == []))=true:=by kernel_rfl
theorem j9:((Rows.queueStuckRow.inPlace == Tryz.prog.inPlace 3))=true:=by kernel_rfl
theorem j10:((Rows.queueStuckRow.unfollowed == Tryz.prog.unfollowed 3))=true:=by kernel_rfl
theorem j11:((Rows.queueStuckRow.recurses == Tryz.prog.recurses 3))=true:=by kernel_rfl
theorem j12:((Rows.queueStuckRow.named == Tryz.prog.varsNamed 3))=true:=by kernel_rfl
theorem j13:((Rows.queueStuckRow.maps == (Tryz.f3.params.toList++Rows.queueStuckSpec.plain.varTypes Tryz.prog).any (Tryz.prog.mapsRec ·)))=true:=by kernel_rfl
theorem j14:((Rows.queueStuckRow.ifaces == (Tryz.f3.params.toList++Rows.queueStuckSpec.plain.varTypes Tryz.prog).any (Tryz.prog.ifacesRec ·)))=true:=by kernel_rfl
theorem j15:((Rows.queueStuckRow.mapsOut == Tryz.prog.mapsAmong Tryz.f3.resultTypes.toList))=true:=by kernel_rfl
theorem j16:((Rows.queueStuckRow.loops == (Tryz.f3.params.toList++Rows.queueStuckSpec.plain.varTypes Tryz.prog).any (Tryz.prog.loopsFrom ·)))=true:=by kernel_rfl
theorem j17:((Rows.queueStuckRow.wideKeys == (Tryz.f3.params.toList++Rows.queueStuckSpec.plain.varTypes Tryz.prog++Tryz.f3.resultTypes.toList).any (Tryz.prog.wideKeysFrom ·)))=true:=by kernel_rfl
theorem j18:(Rows.queueStuckSpec.vars.all (Tryz.prog.varReadable ·))=true:=by kernel_rfl
theorem j19:(Tryz.f3.resultTypes.all (fun t=>Tryz.prog.readableRec t && decide (t < Tryz.prog.types.size)))=true:=by kernel_rfl
theorem j20:((Rows.queueStuckRow.ifacesOut == Tryz.f3.resultTypes.toList.any (Tryz.prog.ifacesRec ·)))=true:=by kernel_rfl
theorem j21:((Rows.queueStuckRow.loopsOut == Tryz.f3.resultTypes.toList.any (Tryz.prog.loopsFrom ·)))=true:=by kernel_rfl
theorem j22:((Rows.queueStuckRow.plainKeys == Tryz.prog.plainKeys))=true:=by kernel_rfl
theorem j23:(Rows.queueStuckRow.shortTexts.isNone)=true:=by kernel_rfl
theorem j24:(Tryz.prog.stopsHeard)=true:=by kernel_rfl
theorem j25:(Tryz.prog.mayEnter)=true:=by kernel_rfl
theorem j26:((Rows.queueStuckRow.lifted == Tryz.prog.liftsFinal))=true:=by kernel_rfl
theorem j27:((Tryz.prog.make == some Rows.queueStuckRow.make))=true:=by kernel_rfl
theorem j28:((Rows.queueStuckRow.kinds == (if Rows.queueStuckRow.domain.isEmpty then [] else Tryz.f3.params.toList.map fun t=>match Tryz.prog.underlying t with | some (.int k)=>some k | _=>none)))=true:=by kernel_rfl
theorem j29:((Rows.queueStuckRow.pinned == Rows.queueStuckRow.pinnedBy))=true:=by kernel_rfl
theorem j30:((Rows.queueStuckRow.veiled == (Tryz.f3.params.toList++Rows.queueStuckSpec.plain.varTypes Tryz.prog++Tryz.f3.resultTypes.toList).any (Tryz.prog.veiledRec ·)))=true:=by kernel_rfl
theorem j31:(Rows.queueStuckRow.veiledFits Tryz.prog Tryz.f3.params.toList (Tryz.f3.params.toList++Rows.queueStuckSpec.plain.varTypes Tryz.prog++Tryz.f3.resultTypes.toList))=true:=by kernel_rfl
theorem and2 {a b:Bool} (h:a=true) (k:b=true):(a && b)=true:=by rw [h,k]; rfl
theorem joined:joinedFacts Tryz.prog 3 Tryz.f3 Rows.queueStuckSpec Rows.queueStuckRow=true:=by
  unfold joinedFacts
  exact and2 (and2 (and2 (and2 (and2 (and2 (and2 (and2 (and2 (and2 (and2 (and2 (and2 (and2 (and2 (and2 (and2 (and2 (and2 (and2 (and2 (and2 (and2 (and2 (and2 (and2 (and2 (and2 (and2 (and2 (and2 (j0) j1) j2) j3) j4) j5) j6) j7) j8) j9) j10) j11) j12) j13) j14) j15) j16) j17) j18) j19) j20) j21) j22) j23) j24) j25) j26) j27) j28) j29) j30) j31

theorem q1:Rows.queueStuckRow.wfByText (OpenSpec.ofChange Rows.queueStuckSpec)=true:=by kernel_rfl
theorem q4:Tryz.prog.mainIs=some (true,"9a4192f2e417525080bafe3403847736359a8d23cab8e207354b075960c50e0c".toList):=by kernel_rfl
theorem q5:Tryz.prog.wantsStandIn 29=false:=by kernel_rfl
theorem q6:Tryz.prog.wantsStandIn 30=false:=by kernel_rfl
theorem q7:Tryz.prog.funcNamed Rows.queueStuckRow.func=some 3:=by kernel_rfl
theorem q3:false=Rows.queueStuckRow.goesBy Tryz.prog:=by kernel_rfl
theorem q2:true=Tryz.prog.looks []:=by kernel_rfl
theorem over:Rows.queueStuckRow.holds Tryz.pinned (OpenSpec.ofChange Rows.queueStuckSpec):=
  OpenClaim.holds_of_wide 3 Tryz.f3 rfl rfl rfl rfl rfl rfl rfl ⟨rfl,rfl,rfl,rfl,rfl⟩ rfl rfl rfl rfl rfl (by kernel_rfl) Tryz.func3 joined
    (of_decide_eq_true (by kernel_rfl)) (by unfold Func.isWrapper; first | (rw [if_pos (by decide +kernel)]; kernel_rfl) | (rw [if_neg (by decide +kernel)]; exact ⟨rfl,rfl⟩))
    (fun os started H enc _=>lifted os started H enc)
end Go.Proofs.YtilpjnckfkjkbaaGreatDoor.queueStuck
namespace Go.Proofs.YtilpjnckfkjkbaaGreatDoor
/-- The card: the row, its variables tied to the program's text. -/
theorem queueStuck_holds:Rows.QueueStuckCardSaid:=
  Claim7.holds_tied_plain_at .later [] [.listed,.data] true (true,"9a4192f2e417525080bafe3403847736359a8d23cab8e207354b075960c50e0c") true
    queueStuck.over (fun _ h=>by cases h) queueStuck.q1 (fun _ h=>by cases h) queueStuck_row_tie rfl ⟨rfl,rfl⟩ queueStuck.q4 rfl
    (fun f fn hf hfn=>by
      obtain rfl:f=3:=Option.some.inj (queueStuck.q7.symm.trans hf) |>.symm
      obtain rfl:fn=Tryz.f3:=(Option.some.inj (Tryz.func3.symm.trans hfn)).symm
      exact ⟨queueStuck.q2,fun j t ht=>by
        rw [queueStuck.params'] at ht
        have h3:t=29∨t=30:=by
          rcases j with _ | _ | _ | j
          · exact .inl (by simpa using ht.symm)
          · exact .inr (by simpa using ht.symm)
          · exact .inr (by simpa using ht.symm)
          · simp at ht
        rcases h3 with rfl | rfl
        · exact queueStuck.q5
        · exact queueStuck.q6⟩)
    queueStuck.q3
#print axioms queueStuck_holds
end Go.Proofs.YtilpjnckfkjkbaaGreatDoor
