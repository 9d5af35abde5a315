/- The walk of the law FnExactReadDeed: it returns true at every string. Conditions: the length limit, the listed variables laid. -/
import Derived.Test.YtgeljcnlegbedaaDoorRdPure
namespace Go.Proofs.YtgeljcnlegbedaaDoor
open Go.RowKit

theorem deed_below (w : World) (a b c d : Value) {w1 w2 w3 : World} (h1 : Below w.heap.size w w1) (h2 : Below (w1.alloc (.cells #[a, b] 40)).heap.size (w1.alloc (.cells #[a, b] 40)) w2)
    (h3 : Below (w2.alloc (.cells #[c, d] 40)).heap.size (w2.alloc (.cells #[c, d] 40)) w3) : Below w.heap.size w w3 := by
  have e1 : (w1.alloc (.cells #[a, b] 40)).heap.size = w1.heap.size + 1 := by show (w1.heap.push _).size = _; simp
  have e2 : (w2.alloc (.cells #[c, d] 40)).heap.size = w2.heap.size + 1 := by show (w2.heap.push _).size = _; simp
  have s1 := h1.size
  have s2 := h2.size
  exact ((h1.alloc h1.size _).trans (h2.mono (by omega))).trans (((Below.refl _ _).alloc (by omega) _).trans (h3.mono (by omega)))
set_option maxRecDepth 100000 in
set_option maxHeartbeats 1000000 in
theorem law_any (s : ByteArray) (w : World) (hG : Gl w) (hs : s.size ≤ 9223372036854775807) :
    Calls Tryd.prog 4 #[.string s] w fun e w' => e = .returned (.bool true) ∧ Below w.heap.size w w' := by
  by_cases hbig : 1048576 < s.size
  · go_enter Tryd.func4, Tryd.ntmps4
    go_wp2
    go_ret
    exact ⟨rfl, Below.refl _ _⟩
  · have he := Lib.hid (readDeed_eq s)
    have hle : s.size ≤ 1048576 := by omega
    obtain ⟨r, hr⟩ : ∃ r, r = readDeedS s := ⟨_, rfl⟩
    have hb1 : (r.1 == r.1 && r.2.1 == r.2.1) = true := by simp
    have hb2 : ((r.2.2 : Int) != r.2.2) = false := by simp
    have Hr := Lib.hid hr
    clear hr
    go_enter Tryd.func4, Tryd.ntmps4
    go_wp2_with (fail)
    refine (specReadDeed_any s _ hle).mono ?_
    rintro e w1 ⟨rfl, h1⟩
    rw [← Hr.out]
    unfold deedRet
    go_wp2_with (fail)
    refine (ReadDeed_any s _ ((hG.below h1).alloc _) hle).mono ?_
    rintro e w2 ⟨rfl, h2⟩
    rw [he.out, ← Hr.out]
    unfold deedRet
    have k2 := below_new h2
    obtain ⟨c0, c1, _, _⟩ := blk2 k2
    have hl2 := lt_of_block k2
    go_wp2_with (go_at_call 28; refine (eqDeed_any _ _ _ _ _).mono ?_; rintro e w3 ⟨rfl, h3⟩)
    go_ret
    exact ⟨rfl, deed_below w _ _ _ _ h1 h2 h3⟩

end Go.Proofs.YtgeljcnlegbedaaDoor
