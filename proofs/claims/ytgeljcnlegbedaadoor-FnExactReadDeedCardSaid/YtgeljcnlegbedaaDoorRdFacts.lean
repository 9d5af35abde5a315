/- The closed facts that the row and the card of FnExactReadDeed ask, each a theorem of its own (written by mkfacts.py). -/
import Derived.Test.YtgeljcnlegbedaaDoorRows
import Derived.Test.YtgeljcnlegbedaaDoorCards
import Derived.Test.YtgeljcnlegbedaaDoorTie
import Derived.ProofKit
import Derived.LaidMore
import Derived.LaidLaws
import Derived.OpenShut
import Derived.LaidOnce
namespace Go.Proofs.YtgeljcnlegbedaaDoor
namespace RdCard
open Go.ChangeShapes Go.WideShapes Go.ChangeAt Go.RowKit
theorem jf0 : (Rows.fnExactReadDeedRow.wf (OpenSpec.ofChange Rows.fnExactReadDeedSpec)) = true := by kernel_rfl
theorem jf1 : (laidOutB Tryd.prog) = true := by kernel_rfl
theorem jf2 : (mapsRowed Tryd.prog) = true := by kernel_rfl
theorem jf3 : (Tryd.f4.params.all (Tryd.prog.readableRec ·)) = true := by kernel_rfl
theorem jf4 : (namedTie Tryd.prog Rows.fnExactReadDeedRow.named Rows.fnExactReadDeedSpec.vars) = true := by kernel_rfl
theorem jf5 : ((Rows.fnExactReadDeedRow.stops == [])) = true := by kernel_rfl
theorem jf6 : ((Tryd.prog.stops == [])) = true := by kernel_rfl
theorem jf7 : ((Rows.fnExactReadDeedRow.knobs == [])) = true := by kernel_rfl
theorem jf8 : ((Tryd.prog.stopKnobs == [])) = true := by kernel_rfl
theorem jf9 : ((Rows.fnExactReadDeedRow.inPlace == Tryd.prog.inPlace  4)) = true := by kernel_rfl
theorem jf10 : ((Rows.fnExactReadDeedRow.unfollowed == Tryd.prog.unfollowed  4)) = true := by kernel_rfl
theorem jf11 : ((Rows.fnExactReadDeedRow.recurses == Tryd.prog.recurses  4)) = true := by kernel_rfl
theorem jf12 : ((Rows.fnExactReadDeedRow.named == Tryd.prog.varsNamed  4)) = true := by kernel_rfl
theorem jf13 : ((Rows.fnExactReadDeedRow.maps == (Tryd.f4.params.toList ++ Rows.fnExactReadDeedSpec.plain.varTypes Tryd.prog).any (Tryd.prog.mapsRec ·))) = true := by kernel_rfl
theorem jf14 : ((Rows.fnExactReadDeedRow.ifaces == (Tryd.f4.params.toList ++ Rows.fnExactReadDeedSpec.plain.varTypes Tryd.prog).any (Tryd.prog.ifacesRec ·))) = true := by kernel_rfl
theorem jf15 : ((Rows.fnExactReadDeedRow.mapsOut == Tryd.prog.mapsAmong Tryd.f4.resultTypes.toList)) = true := by kernel_rfl
theorem jf16 : ((Rows.fnExactReadDeedRow.loops == (Tryd.f4.params.toList ++ Rows.fnExactReadDeedSpec.plain.varTypes Tryd.prog).any (Tryd.prog.loopsFrom ·))) = true := by kernel_rfl
theorem jf17 : ((Rows.fnExactReadDeedRow.wideKeys == (Tryd.f4.params.toList ++ Rows.fnExactReadDeedSpec.plain.varTypes Tryd.prog ++ Tryd.f4.resultTypes.toList).any (Tryd.prog.wideKeysFrom ·))) = true := by kernel_rfl
theorem jf18 : (Rows.fnExactReadDeedSpec.vars.all (Tryd.prog.varReadable ·)) = true := by kernel_rfl
theorem jf19 : (Tryd.f4.resultTypes.all (fun t => Tryd.prog.readableRec t && decide (t < Tryd.prog.types.size))) = true := by kernel_rfl
theorem jf20 : ((Rows.fnExactReadDeedRow.ifacesOut == Tryd.f4.resultTypes.toList.any (Tryd.prog.ifacesRec ·))) = true := by kernel_rfl
theorem jf21 : ((Rows.fnExactReadDeedRow.loopsOut == Tryd.f4.resultTypes.toList.any (Tryd.prog.loopsFrom ·))) = true := by kernel_rfl
theorem jf22 : ((Rows.fnExactReadDeedRow.plainKeys == Tryd.prog.plainKeys)) = true := by kernel_rfl
theorem jf23 : (Rows.fnExactReadDeedRow.shortTexts.isNone) = true := by kernel_rfl
theorem jf24 : (Tryd.prog.stopsHeard) = true := by kernel_rfl
theorem jf25 : (Tryd.prog.mayEnter) = true := by kernel_rfl
theorem jf26 : ((Rows.fnExactReadDeedRow.lifted == Tryd.prog.liftsFinal)) = true := by kernel_rfl
theorem jf27 : ((Tryd.prog.make == some Rows.fnExactReadDeedRow.make)) = true := by kernel_rfl
theorem jf28 : ((Rows.fnExactReadDeedRow.kinds == (if Rows.fnExactReadDeedRow.domain.isEmpty then [] else Tryd.f4.params.toList.map fun t => match Tryd.prog.underlying t with | some (.int k) => some k | _ => none))) = true := by kernel_rfl
theorem jf29 : ((Rows.fnExactReadDeedRow.pinned == Rows.fnExactReadDeedRow.pinnedBy)) = true := by kernel_rfl
theorem jf30 : ((Rows.fnExactReadDeedRow.veiled == (Tryd.f4.params.toList ++ Rows.fnExactReadDeedSpec.plain.varTypes Tryd.prog ++ Tryd.f4.resultTypes.toList).any (Tryd.prog.veiledRec ·))) = true := by kernel_rfl
theorem jf31 : (Rows.fnExactReadDeedRow.veiledFits Tryd.prog Tryd.f4.params.toList (Tryd.f4.params.toList ++ Rows.fnExactReadDeedSpec.plain.varTypes Tryd.prog ++ Tryd.f4.resultTypes.toList)) = true := by kernel_rfl
theorem and_t {a b : Bool} (h : a = true) (k : b = true) : (a && b) = true := by rw [h, k]; rfl
set_option maxRecDepth 100000 in
theorem jfAll : joinedFacts Tryd.prog 4 Tryd.f4 Rows.fnExactReadDeedSpec Rows.fnExactReadDeedRow = true := by unfold joinedFacts; exact and_t (and_t (and_t (and_t (and_t (and_t (and_t (and_t (and_t (and_t (and_t (and_t (and_t (and_t (and_t (and_t (and_t (and_t (and_t (and_t (and_t (and_t (and_t (and_t (and_t (and_t (and_t (and_t (and_t (and_t (and_t (jf0) jf1) jf2) jf3) jf4) jf5) jf6) jf7) jf8) jf9) jf10) jf11) jf12) jf13) jf14) jf15) jf16) jf17) jf18) jf19) jf20) jf21) jf22) jf23) jf24) jf25) jf26) jf27) jf28) jf29) jf30) jf31
theorem named : Tryd.prog.funcNamed Rows.fnExactReadDeedRow.func = some 4 := by kernel_rfl
theorem inst : Tryd.f4.isInstance Tryd.prog Rows.fnExactReadDeedRow.origin Rows.fnExactReadDeedRow.targs := of_decide_eq_true (by kernel_rfl)
theorem wrapf : ¬ (Check.packageOf Tryd.f4.name = "main") := by decide +kernel
theorem wrapper : Tryd.f4.isWrapper Tryd.prog Rows.fnExactReadDeedRow.wrapper Rows.fnExactReadDeedRow.mainSum := by unfold Func.isWrapper; rw [if_neg wrapf]; exact ⟨rfl, rfl⟩
theorem byText : Rows.fnExactReadDeedRow.wfByText (OpenSpec.ofChange Rows.fnExactReadDeedSpec) = true := by kernel_rfl
theorem mainIs : Tryd.prog.mainIs = some (Rows.fnExactReadDeedCard.stood.harness.1, Rows.fnExactReadDeedCard.stood.harness.2.toList) := by kernel_rfl
theorem looks : true = Tryd.prog.looks [] := by kernel_rfl
theorem goesBy : false = Rows.fnExactReadDeedRow.goesBy Tryd.prog := by kernel_rfl
theorem standIns : ([9].all fun u => !Tryd.prog.wantsStandIn u) = true := by kernel_rfl
theorem standIn (j : Nat) (t : TypeId) (ht : Tryd.f4.params[j]? = some t) : Tryd.prog.wantsStandIn t = false := by
  rw [Tryd.params4] at ht
  have hm : t ∈ [9] := by simpa using Array.mem_of_getElem? ht
  simpa using List.all_eq_true.1 standIns t hm
theorem own : ownKnob Tryd.prog.godebug = none := by kernel_rfl
theorem noInit : Tryd.prog.inits.idxOf? 4 = none := by kernel_rfl
end RdCard
end Go.Proofs.YtgeljcnlegbedaaDoor
