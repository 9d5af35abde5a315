/- For every text: the law FnExactReadDeed returns true, and its argument reads as before (the card ties the five listed variables of the library to the program's text). Conditions: none beyond the row's own cells. -/
import Derived.Test.YtgeljcnlegbedaaDoorRdLaw
import Derived.Test.YtgeljcnlegbedaaDoorRdFacts
import Derived.Test.YtgeljcnlegbedaaDoorRows
import Derived.Test.YtgeljcnlegbedaaDoorCards
import Derived.Test.YtgeljcnlegbedaaDoorTie
import Derived.ProofKit
import Derived.LaidMore
import Derived.LaidLaws
import Derived.OpenShut
import Derived.Lib.LaidU8
import Derived.Lib.LaidTab
import Derived.Stop.Joined
import Derived.SevenTiedAt
namespace Go.Proofs.YtgeljcnlegbedaaDoor
namespace RdCard
open Go.ChangeShapes Go.WideShapes Go.ChangeAt Go.RowKit

theorem plain (W : World) : laidMetH Tryd.prog Rows.fnExactReadDeedRow.laid W = laidMet Tryd.prog Rows.fnExactReadDeedRow.laid W := MakeChecks.laidMetH_plain _ _ _ (by kernel_rfl)

theorem sentinel_of {n : String} {g : Nat} {te : TypeId} {nm : String} {d : DataW Unit} {W : World} (hg : Tryd.prog.globalNamed n = some g) (ht : (Tryd.prog.globals[g]?).map (·.type) = some te) {ms : Array (String × TypeId)}
    (hi : Tryd.prog.underlying te = some (.interface ms)) (h : Lib.VarReads Tryd.prog W n (.iface nm d)) : ∃ tp p, W.var? Tryd.prog n = some #[.iface tp p] := by
  obtain ⟨g', t', cs, fuel, p, hg', ht', hv, hd⟩ := h
  obtain rfl := Option.some.inj (hg.symm.trans hg')
  obtain rfl := Option.some.inj (ht.symm.trans ht')
  obtain ⟨_, u, v, hcs, _, _⟩ := iface_of_trod hi hd
  refine ⟨u, v, ?_⟩
  rw [hv]
  obtain ⟨l⟩ := cs
  simp at hcs
  rw [hcs]
theorem tab_of {n : String} {g : Nat} {t e : TypeId} {m : Nat} {k : IntKind} {zs : List Int} {W : World} (hg : Tryd.prog.globalNamed n = some g) (hty : (Tryd.prog.globals[g]?).map (·.type) = some t) (ht : Tryd.prog.underlying t = some (.array m e))
    (he : Tryd.prog.underlying e = some (.int k)) (hce : Tryd.prog.cellsOf e = 1) (hct : Tryd.prog.cellsOf t = m) (h : Lib.VarReads Tryd.prog W n (Lib.tabData k zs)) : Lib.TabIs Tryd.prog W n k zs := by
  obtain ⟨g', t', cs, fuel, p, hg', ht', hv, hd⟩ := h
  obtain rfl := Option.some.inj (hg.symm.trans hg')
  obtain rfl := Option.some.inj (hty.symm.trans ht')
  unfold Lib.TabIs
  rw [hv, ← Lib.cells_of_tab ht he hce hct hd]
theorem gl_of {W : World} (h : laidMetH Tryd.prog Rows.fnExactReadDeedRow.laid W) (hs : W.ShapedOpen Tryd.prog) (hlow : Tryd.prog.low ≤ W.heap.size) : Gl W := by
  rw [plain] at h
  refine ⟨hlow, hs, ?_, ?_, ?_⟩
  · exact sentinel_of (nm := "*errors.errorString") gsyn (by kernel_rfl) Tryd.underlying190 (Lib.laidMet.reads (n := "strconv.ErrSyntax") (d := Rows.laid_strconv_ErrSyntax) h (by simp [Rows.fnExactReadDeedRow]))
  · exact sentinel_of (nm := "*errors.errorString") grng (by kernel_rfl) Tryd.underlying190 (Lib.laidMet.reads (n := "strconv.ErrRange") (d := Rows.laid_strconv_ErrRange) h (by simp [Rows.fnExactReadDeedRow]))
  · exact tab_of (t := 358) (e := 179) (m := 20) gtab (by kernel_rfl) Tryd.underlying358 Tryd.underlying179 (by kernel_rfl) (by kernel_rfl) (Lib.laidMet.reads (n := "internal/strconv.uint64pow10") (d := Rows.laid_internal_strconv_uint64pow10) h (by simp [Rows.fnExactReadDeedRow]))

theorem door_met (os : Os) (args : Array Value) : laidMetH Tryd.prog Rows.fnExactReadDeedRow.laid ((World.doorLaid Tryd.prog 400 os).forCall (fun _ _ => 0) ⟨#[], args, []⟩).memory := by
  rw [plain]
  exact laidMet_of_run' 8 (by kernel_rfl) (by kernel_rfl)

theorem low_le (W : World) (h : W.ShapedOpen Tryd.prog) : Tryd.prog.low ≤ W.heap.size := by
  have h1 : Tryd.prog.globals.size + 1 ≤ Tryd.prog.low := of_decide_eq_true (by kernel_rfl)
  obtain ⟨o, _, ho, _⟩ := h.2 (Tryd.prog.low - 1) (by omega) (by show _ < Tryd.prog.low; omega)
  have := lt_of_block ho
  omega

/-- the wrap that hands on the listed variables and the world's shape -/
theorem wrap {H : Type} {enc : TypeId × Value → H} {a : Assume} {C : Checked} {os : Os} {f : FuncId} {fn : Func} {s : ChangeSpec} {conds : List PathCond} {apart fresh handsOn again : Bool} {X : World → Array Value → Prop}
    (hX : ∀ (w w' : World) (args : Array Value), w.heap = w'.heap → X w args → X w' args)
    (own : ownKnob C.prog.godebug = none) (started : os.Started) (noInit : C.prog.inits.idxOf? f = none) (hfn : C.prog.funcs[f]? = some fn)
    (witness : ∃ (w : World) (tape : Tape) (i : Input), w.os = os ∧ (w.forCall tape i).Shaped C.prog ∧ i.vars = [] ∧ Input.okWide C.prog (w.forCall tape i) .any w.heap.size f i ∧
      ((s.pre enc C.prog fn conds apart (w.forCall tape i).memory i.args ∧ X (w.forCall tape i).memory i.args) ∧ sizedMet enc C.prog fn (OpenSpec.ofChange s) apart (w.forCall tape i).memory i.args) ∧ a.holds C.prog (lone (Frame.enter C.prog f i.args .normal) [] (w.forCall tape i)))
    (contract : ∀ (W : World) (base : Nat) (args : Array Value) (ds gs : List (DataW H)) (before : List MemPlace),
      (∀ (j : Nat) t v, fn.params[j]? = some t → args[j]? = some v → Value.okWide C.prog W .any base t v) →
      DataW.Whole enc C.prog fn.params.toList s.vars apart W args.toList ds gs before →
      (DataW.weightsEach C.prog (fn.params.toList ++ s.plain.varTypes C.prog) (ds ++ gs)).all (· ≤ reachBytes) = true → X W args → W.ShapedOpen C.prog →
      Calls C.prog f args W fun e W' => ∃ v, e = .returned v ∧ s.post enc C.prog fn apart fresh handsOn again W args v W') :
    ReturnsInHanded a C os f .any (fun w args => (s.pre enc C.prog fn conds apart w args ∧ X w args) ∧ sizedMet enc C.prog fn (OpenSpec.ofChange s) apart w args) (s.post enc C.prog fn apart fresh handsOn again) := by
  refine returnsInHanded_of_calls own started noInit witness ?_
  intro w tape i _ hsh _ hok hpre _
  obtain ⟨_, _, _, fn', hfn', _, _, _, _, hval⟩ := hok
  obtain rfl : fn' = fn := Option.some.inj (hfn'.symm.trans hfn)
  obtain ⟨⟨⟨ds, gs, before, hw, _⟩, hx⟩, hz⟩ := hpre
  refine (contract (w.forCall tape i) w.heap.size i.args ds gs before hval (DataW.Whole.of_heap (w' := w.forCall tape i) (by rfl) hw) (hz.weights hw) (hX _ _ _ (by rfl) hx) hsh).mono fun e W' ⟨v, he, hp⟩ => ?_
  subst he
  exact ChangeSpec.post_blind hp

set_option maxRecDepth 100000 in
theorem lifted (os : Os) (started : os.Started) (H : Type) (enc : TypeId × Value → H) :
    ReturnsInHanded {} Tryd.checked os 4 .any (fun w args => (Rows.fnExactReadDeedSpec.pre enc Tryd.prog Tryd.f4 [] false w args ∧ laidMetH Tryd.prog Rows.fnExactReadDeedRow.laid w) ∧ sizedMet enc Tryd.prog Tryd.f4 (OpenSpec.ofChange Rows.fnExactReadDeedSpec) false w args)
      (Rows.fnExactReadDeedSpec.post enc Tryd.prog Tryd.f4 false true false false) := by
  refine wrap (C := Tryd.checked) (X := fun w _ => laidMetH Tryd.prog Rows.fnExactReadDeedRow.laid w) (fun _ _ _ hh h => h.of_heap hh) own started noInit Tryd.func4
    (ChangeSpec.witness_shaped (enc := enc) (C := Tryd.checked) (os := os) (X := fun w _ => laidMetH Tryd.prog Rows.fnExactReadDeedRow.laid w) false (World.doorLaid Tryd.prog 400 os) #[.string ⟨#[]⟩] 8 rfl (World.shaped_of_RefB (by kernel_rfl) (by kernel_rfl)) (by kernel_rfl) (by kernel_rfl) (by kernel_rfl) (door_met os _)) ?_
  intro W base args ds gs before hval0 hW _ hL hsh
  have hval : ∀ (j : Nat) t v, Tryd.f4.params[j]? = some t → args[j]? = some v → Value.okWide Tryd.prog W .any base t v := hval0
  have hW' := hW
  obtain ⟨p, q, hA0, hV, rfl, hfz, hnd⟩ := hW
  have hA : DataW.TrodAll enc Tryd.prog W 0 (fun _ => true) true Tryd.f4.params.toList args.toList ds p := hA0
  rw [Tryd.params4] at hA hval
  obtain ⟨v0, d0, rfl, rfl, h0⟩ := trodAll_one hA
  obtain ⟨rfl, rfl⟩ := trodVars_none hV
  obtain ⟨s, rfl, rfl, rfl, hs⟩ := ChangeMaps.open_string Tryd.underlying9 (hval 0 9 v0 rfl rfl) h0
  clear hA0 hval0
  simp only [List.append_nil] at hW'
  have e1 : Rows.fnExactReadDeedSpec.fn H ([.lit (.string s.data.toList)] ++ []) = { results := [.lit (.bool true)], args := [.lit (.string s.data.toList)] } := by simp [Rows.fnExactReadDeedSpec]
  refine (law_any s W (gl_of hL hsh (low_le W hsh)) (by unfold maxLen at hs; omega)).mono fun e W' ⟨he, hb⟩ => ?_
  subst he
  refine ⟨_, rfl, _, _, _, [], [], [], hW', ?_, ?_, ?_, hb.frame _, fun h => by cases h⟩
  · rw [e1]; exact trodAll_mk1 (shut_bool Tryd.underlying4 true)
  · rw [e1]; exact trodAll_mk1 (ChangeMaps.shut_string Tryd.underlying9 hs)
  · rw [e1]; rfl

theorem over : Rows.FnExactReadDeedSaid :=
  OpenClaim.holds_of_wide 4 Tryd.f4 rfl rfl rfl rfl rfl rfl rfl ⟨rfl, rfl, rfl, rfl, rfl⟩ rfl rfl rfl rfl rfl named Tryd.func4 jfAll inst wrapper
    (fun os started H enc _ => lifted os started H enc)

theorem card : Rows.FnExactReadDeedCardSaid :=
  Claim7.holds_tied_plain_at .later [] [.data, .data, .data, .sentinel, .sentinel] true Rows.fnExactReadDeedCard.stood.harness true
    over (fun _ h => by cases h) byText (fun _ h => by cases h) fnExactReadDeed_row_tie rfl ⟨rfl, rfl⟩ mainIs rfl
    (fun f fn hf hfn => by
      obtain rfl : f = 4 := Option.some.inj (named.symm.trans hf) |>.symm
      obtain rfl : fn = Tryd.f4 := (Option.some.inj (Tryd.func4.symm.trans hfn)).symm
      exact ⟨looks, standIn⟩)
    goesBy

end RdCard
theorem fnExactReadDeed_holds : Rows.FnExactReadDeedCardSaid := RdCard.card
#print axioms fnExactReadDeed_holds
end Go.Proofs.YtgeljcnlegbedaaDoor
