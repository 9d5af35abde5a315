/- The walks of impl.ReadDeed and its helpers: each answers as a plain function on lists says. Conditions: at texts up to the length limit, in a world where the listed variables are laid. -/
import Derived.WalkKit
import Derived.Deep.QuietTactic
import Derived.BigQuiet
import Derived.Test.YtgeljcnlegbedaaDoorShelf
import Derived.Lib.Hide
import Derived.Test.YtgeljcnlegbedaaDoorProg
namespace Go.Proofs.YtgeljcnlegbedaaDoor
open Go.RowKit

theorem ret_bool {a b : Bool} (h : a = b) : Ending.returned (.bool a) = .returned (.bool b) := by rw [h]

def inB (n lo hi : Int) : Bool := decide (lo ≤ n) && decide (n ≤ hi)
theorem inB_le {n lo hi : Int} (h : lo ≤ n) : decide (n ≤ hi) = inB n lo hi := by simp [inB, h]
theorem inB_lt {n lo hi : Int} (h : n < lo) : false = inB n lo hi := by simp [inB]; omega
theorem within_any (n lo hi : Int) (w : World) : Calls Tryd.prog 84 #[.int .i64 n, .int .i64 lo, .int .i64 hi] w fun e w' => e = .returned (.bool (inB n lo hi)) ∧ w = w' := by
  go_enter Tryd.func84, Tryd.ntmps84
  go_wp2
  all_goals go_ret
  · exact ⟨ret_bool (inB_le (by assumption)), rfl⟩
  · exact ⟨ret_bool (inB_lt (by assumption)), rfl⟩
theorem l00In_any (n lo hi : Int) (w : World) : Calls Tryd.prog 102 #[.int .i64 n, .int .i64 lo, .int .i64 hi] w fun e w' => e = .returned (.bool (inB n lo hi)) ∧ w = w' := by
  go_enter Tryd.func102, Tryd.ntmps102
  go_wp2
  all_goals go_ret
  · exact ⟨ret_bool (inB_le (by assumption)), rfl⟩
  · exact ⟨ret_bool (inB_lt (by assumption)), rfl⟩

def validDeed (k a : Int) : Bool := inB k 1 6 && inB a 0 999
theorem validDeed_t {k a : Int} (h : inB k 1 6 = true) : inB a 0 999 = validDeed k a := by simp [validDeed, h]
theorem validDeed_f {k a : Int} (h : inB k 1 6 = false) : false = validDeed k a := by simp [validDeed, h]
theorem ValidDeed_any (k a : Int) (w : World) : Calls Tryd.prog 98 #[.agg #[.int .i64 k, .int .i64 a]] w fun e w' => e = .returned (.bool (validDeed k a)) ∧ Below w.heap.size w w' := by
  go_enter Tryd.func98, Tryd.ntmps98
  go_wp2_with (go_at_call 84; refine (within_any _ _ _ _).mono ?_; rintro e w' ⟨rfl, rfl⟩)
  all_goals go_ret
  · exact ⟨ret_bool (validDeed_t (by assumption)), (Below.refl _ _).alloc (Nat.le_refl _) _⟩
  · exact ⟨ret_bool (validDeed_f (by simp only [Bool.not_eq_true] at *; assumption)), (Below.refl _ _).alloc (Nat.le_refl _) _⟩
theorem l08Deed_any (k a : Int) (w : World) : Calls Tryd.prog 93 #[.agg #[.int .i64 k, .int .i64 a]] w fun e w' => e = .returned (.bool (validDeed k a)) ∧ Below w.heap.size w w' := by
  go_enter Tryd.func93, Tryd.ntmps93
  go_wp2_with (go_at_call 102; refine (l00In_any _ _ _ _).mono ?_; rintro e w' ⟨rfl, rfl⟩)
  all_goals go_ret
  · exact ⟨ret_bool (validDeed_t (by assumption)), (Below.refl _ _).alloc (Nat.le_refl _) _⟩
  · exact ⟨ret_bool (validDeed_f (by simp only [Bool.not_eq_true] at *; assumption)), (Below.refl _ _).alloc (Nat.le_refl _) _⟩

theorem eqDeed_1 {k a l b : Int} (h : (k != l) = true) : false = (k == l && a == b) := by simp at h; simp [h]
theorem eqDeed_2 {k a l b : Int} (h : (k != l) = false) (h2 : (a != b) = true) : false = (k == l && a == b) := by simp at h h2; simp [h, h2]
theorem eqDeed_3 {k a l b : Int} (h : (k != l) = false) (h2 : (a != b) = false) : true = (k == l && a == b) := by simp at h h2; simp [h, h2]
theorem eqDeed_any (k a l b : Int) (w : World) : Calls Tryd.prog 28 #[.agg #[.int .i64 k, .int .i64 a], .agg #[.int .i64 l, .int .i64 b]] w fun e w' => e = .returned (.bool (k == l && a == b)) ∧ Below w.heap.size w w' := by
  go_enter Tryd.func28, Tryd.ntmps28
  go_wp2
  all_goals go_ret
  · exact ⟨ret_bool (eqDeed_1 (by assumption)), ((Below.refl _ _).alloc (Nat.le_refl _) _).alloc (by simp) _⟩
  · exact ⟨ret_bool (eqDeed_2 (by assumption) (by assumption)), ((Below.refl _ _).alloc (Nat.le_refl _) _).alloc (by simp) _⟩
  · exact ⟨ret_bool (eqDeed_3 (by assumption) (by assumption)), ((Below.refl _ _).alloc (Nat.le_refl _) _).alloc (by simp) _⟩

def dwords : List (List UInt8) := [[], [97, 115, 107], [100, 101, 108, 105, 118, 101, 114], [99, 111, 112, 121], [100, 114, 111, 112], [115, 97, 118, 101], [99, 114, 97, 115, 104]]
def dcells : Array Value := (dwords.map fun l => Value.string ⟨l.toArray⟩).toArray
theorem deedWords_any (w : World) : Calls Tryd.prog 97 #[] w fun e w' => e = .returned (.slice (some ⟨w.heap.size, 0, none⟩) 7 7) ∧ w' = w.alloc (.cells dcells 9) := by
  go_enter Tryd.func97, Tryd.ntmps97
  go_wp2
  go_ret
  exact ⟨rfl, rfl⟩
theorem l08Words_any (w : World) : Calls Tryd.prog 91 #[] w fun e w' => e = .returned (.slice (some ⟨w.heap.size, 0, none⟩) 7 7) ∧ w' = w.alloc (.cells dcells 9) := by
  go_enter Tryd.func91, Tryd.ntmps91
  go_wp2
  go_ret
  exact ⟨rfl, rfl⟩

/-! what is carried of the package-level variables -/
structure Gl (w : World) : Prop where
  low : Tryd.prog.low ≤ w.heap.size
  shaped : w.ShapedOpen Tryd.prog
  syn : ∃ tp p, w.var? Tryd.prog "strconv.ErrSyntax" = some #[.iface tp p]
  rng : ∃ tp p, w.var? Tryd.prog "strconv.ErrRange" = some #[.iface tp p]
  tab : Lib.TabIs Tryd.prog w "internal/strconv.uint64pow10" .u64 Lib.pow10Tab
theorem gsyn : Tryd.prog.globalNamed "strconv.ErrSyntax" = some 1 := by kernel_rfl
theorem grng : Tryd.prog.globalNamed "strconv.ErrRange" = some 2 := by kernel_rfl
theorem gtab : Tryd.prog.globalNamed "internal/strconv.uint64pow10" = some 5 := by kernel_rfl
theorem var_below {n : String} {g : Nat} (hg : Tryd.prog.globalNamed n = some g) {B : Nat} {w w' : World} (h : Below B w w') (hb : g < B) : w'.var? Tryd.prog n = w.var? Tryd.prog n := by
  unfold World.var?; rw [hg]; simp only [Option.bind_some]; rw [h.block g hb]
theorem low_eq : 8 ≤ Tryd.prog.low := of_decide_eq_true (by kernel_rfl)
theorem Gl.below {w w' : World} (h : Gl w) (hb : Below w.heap.size w w') : Gl w' := by
  have hl := Nat.le_trans low_eq h.low
  refine ⟨Nat.le_trans h.low hb.size, h.shaped.keptBut (may := fun _ => False) (hb.frame _) (fun p hp => hp.elim), ?_, ?_, ?_⟩
  · rw [var_below gsyn hb (by omega)]; exact h.syn
  · rw [var_below grng hb (by omega)]; exact h.rng
  · unfold Lib.TabIs; rw [var_below gtab hb (by omega)]; exact h.tab
theorem below_drewN (w : World) (n : Nat) : Below w.heap.size w (w.drewN n) := ⟨rfl, rfl, rfl, Nat.le_refl _, fun _ _ => rfl⟩
theorem below_grow (w : World) (os : Array Obj) : Below w.heap.size w (Sort.grow w os) :=
  ⟨rfl, rfl, rfl, by simp [Sort.grow], fun k hk => by simp [Sort.grow, Array.getElem?_append_left hk]⟩

/-! impl.text, impl.number -/
theorem text_any (n : Int) (w : World) (hG : Gl w) (h1 : -9223372036854775808 ≤ n) (h2 : n ≤ 9223372036854775807) :
    Calls Tryd.prog 179 #[.int .i64 n] w fun e w' => e = .returned (.string ⟨(Lib.itoa n).toArray⟩) ∧ Below w.heap.size w w' := by
  go_enter Tryd.func179, Tryd.ntmps179
  go_wp2_with (go_at_call 251; refine (Tryd.strconv_FormatInt_10 n h1 h2 _ hG.tab).mono ?_; rintro e w' ⟨rfl, k, os, rfl⟩)
  go_ret
  exact ⟨rfl, (below_drewN w k).trans (below_grow (w.drewN k) os)⟩

def numOf (l : List UInt8) : Int := match Lib.parseIntB 64 l with | .ok v => v | .range => Lib.intSat 64 l | _ => 0
def numOk (l : List UInt8) : Bool := match Lib.parseIntB 64 l with | .ok v => Lib.itoa v == l | _ => false
theorem bytes_below {w w' : World} (h : w' = w ∨ ∃ t, w' = Lib.bytesWorld w 5 t) : Below w.heap.size w w' := by
  rcases h with rfl | ⟨t, rfl⟩
  · exact Below.refl _ _
  · unfold Lib.bytesWorld
    refine (Below.alloc (Below.drew (Below.refl w.heap.size w)) (Nat.le_refl _) (.cells (Lib.bytesCells w 5 t) 5)).trans ⟨by unfold World.freeze; split <;> rfl, by unfold World.freeze; split <;> rfl, by unfold World.freeze; split <;> rfl, ?_, fun k hk => ?_⟩
    · unfold World.freeze; split <;> simp
    · unfold World.freeze
      split
      · rfl
      · simp only [Array.getElem?_modify]
        rw [if_neg (by show w.heap.size ≠ k; omega)]
theorem num_ok {l : List UInt8} {v : Int} (h : Lib.parseIntB 64 l = .ok v) : numOf l = v ∧ numOk l = (Lib.itoa v == l) ∧ -9223372036854775808 ≤ v ∧ v ≤ 9223372036854775807 := by
  have := Lib.parseIntB_bounds h
  refine ⟨by simp [numOf, h], by simp [numOk, h], by omega, by omega⟩
theorem ret_num {a b : Int} {c d : Bool} (h1 : a = b) (h2 : c = d) : Ending.returned (.tuple #[.int .i64 a, .bool c]) = .returned (.tuple #[.int .i64 b, .bool d]) := by rw [h1, h2]
theorem number_any (s : ByteArray) (w : World) (hG : Gl w) (hs : s.size ≤ 281474976710656) :
    Calls Tryd.prog 95 #[.string s] w fun e w' => e = .returned (.tuple #[.int .i64 (numOf s.data.toList), .bool (numOk s.data.toList)]) ∧ Below w.heap.size w w' := by
  cases hp : Lib.parseIntB 64 s.data.toList with
  | ok v =>
    obtain ⟨hv, ho, h1, h2⟩ := num_ok hp
    have Hp := Lib.hid hp
    have Hv := Lib.hid hv
    have Ho := Lib.hid ho
    clear hp hv ho
    go_enter Tryd.func95, Tryd.ntmps95
    go_wp2_with (first | (go_at_call 178; refine (Tryd.strconv_ParseInt_10_at64_ok s (by omega) v Hp.out _).mono ?_; rintro e w1 ⟨rfl, hw⟩; have hb1 := bytes_below hw; have hG1 := hG.below hb1; clear hw) | (go_at_call 179; refine (text_any v _ (by assumption) h1 h2).mono ?_; rintro e w2 ⟨rfl, hb2⟩))
    go_ret2
    refine ⟨ret_num Hv.out.symm ?_, ?_⟩
    · rw [Ho.out, ByteArray.toList_eq]
    · exact Below.trans ‹Below w.heap.size w _› (Below.mono ‹_› (Below.size ‹Below w.heap.size w _›))
  | range =>
    obtain ⟨tp, p, hsyn⟩ := hG.rng
    have Hs := Lib.hid hsyn
    have Hp := Lib.hid hp
    clear hp hsyn
    go_enter Tryd.func95, Tryd.ntmps95
    go_wp2_with (go_at_call 178; refine (Tryd.strconv_ParseInt_10_at64_range_var s hs Hp.out tp p _ Hs.out).mono ?_; rintro e w' ⟨N, rfl, hN, hcell, hb⟩)
    go_ret2
    refine ⟨ret_num ?_ ?_, by assumption⟩
    · rw [numOf, Hp.out]
    · rw [numOk, Hp.out]
  | _ =>
    obtain ⟨tp, p, hsyn⟩ := hG.syn
    have Hs := Lib.hid hsyn
    have Hp := Lib.hid hp
    clear hp hsyn
    go_enter Tryd.func95, Tryd.ntmps95
    go_wp2_with (go_at_call 178; refine (Tryd.strconv_ParseInt_10_at64_syntax_var s hs (Hp.out.trans rfl) tp p _ Hs.out).mono ?_; rintro e w' ⟨N, rfl, hN, hcell, hb⟩)
    go_ret2
    refine ⟨ret_num ?_ ?_, by assumption⟩
    · rw [numOf, Hp.out]
    · rw [numOk, Hp.out]

theorem Gl.alloc {w : World} (h : Gl w) (o : Obj) : Gl (w.alloc o) := h.below ((Below.refl _ _).alloc (Nat.le_refl _) o)
theorem Gl.drewN {w : World} (h : Gl w) (n : Nat) : Gl (w.drewN n) := h.below (below_drewN w n)
/-! slices.Index over the words -/
def dzs : List ByteArray := dwords.map fun l => ⟨l.toArray⟩
def kindOf (l : List UInt8) : Int := Lib.idxOfS dzs ⟨l.toArray⟩
theorem kind_any (l : List UInt8) (w : World) : Calls Tryd.prog 96 #[.slice (some ⟨w.heap.size, 0, none⟩) 7 7, .string ⟨l.toArray⟩] (w.alloc (.cells dcells 9)) fun e w' => e = .returned (.int .i64 (kindOf l)) ∧ w.alloc (.cells dcells 9) = w' := by
  refine (Tryd.slices_Index_string w.heap.size 0 7 7 dzs ⟨l.toArray⟩ _ (by decide) (by omega) ?_).mono ?_
  · intro j hj
    rw [cell_of_row (w.alloc (.cells dcells 9)) w.heap.size (0 + j) dcells 9 (0, 0) (heap_alloc_new _ _)]
    have hj' : j < 7 := hj
    match j, hj' with
    | 0, _ => rfl
    | 1, _ => rfl
    | 2, _ => rfl
    | 3, _ => rfl
    | 4, _ => rfl
    | 5, _ => rfl
    | 6, _ => rfl
  · rintro e w' ⟨rfl, rfl⟩
    exact ⟨by rw [show List.take 7 dzs = dzs from rfl]; rfl, rfl⟩

def rdWord (l : List UInt8) : List UInt8 := (Lib.cut l [32]).1
def rdRest (l : List UInt8) : List UInt8 := (Lib.cut l [32]).2.1
def deedGood (l : List UInt8) : Bool := numOk (rdRest l) && validDeed (kindOf (rdWord l)) (numOf (rdRest l))
/-- impl.ReadDeed: kind, A, code -/
def readDeed (l : List UInt8) : Int × Int × Int := if deedGood l then (kindOf (rdWord l), numOf (rdRest l), 0) else (0, 0, 5)
def deedRet (r : Int × Int × Int) : Value := .tuple #[.agg #[.int .i64 r.1, .int .i64 r.2.1], .int .i64 r.2.2]
theorem cut_size (s : ByteArray) : (⟨(rdRest s.data.toList).toArray⟩ : ByteArray).size ≤ s.size := by
  show (rdRest s.data.toList).toArray.size ≤ s.data.size
  unfold rdRest Lib.cut
  split
  · simp
  · simp
theorem blk2 {w : World} {g : Nat} {a b : Value} {T : TypeId} (h : w.heap[g]? = some (.cells #[a, b] T (0, 0))) :
    w.cell? ⟨g, 0, none⟩ = some a ∧ w.cell? ⟨g, 1, none⟩ = some b ∧ w.frozen? ⟨g, 0, none⟩ = false ∧ w.frozen? ⟨g, 1, none⟩ = false := by
  refine ⟨?_, ?_, ?_, ?_⟩
  · rw [cell_of_row w _ 0 _ _ _ h]; rfl
  · rw [cell_of_row w _ 1 _ _ _ h]; rfl
  · simp [World.frozen?, h]
  · simp [World.frozen?, h]
theorem res_facts (w : World) (n : Nat) (w2 : World) (h : Below ((w.alloc (.cells #[.int .i64 0, .int .i64 0] 40)).drewN n).heap.size ((w.alloc (.cells #[.int .i64 0, .int .i64 0] 40)).drewN n) w2) :
    w2.heap[w.heap.size]? = some (.cells #[.int .i64 0, .int .i64 0] 40 (0, 0)) ∧ Below w.heap.size w w2 := by
  have hsz : ((w.alloc (.cells #[.int .i64 0, .int .i64 0] 40)).drewN n).heap.size = w.heap.size + 1 := by show (w.heap.push _).size = _; simp
  refine ⟨?_, ?_⟩
  · rw [h.block _ (by omega)]
    exact heap_alloc_new w _
  · exact ((Below.refl _ _).alloc (Nat.le_refl _) _).trans ((below_drewN _ n |>.mono (by simp)).trans (h.mono (by omega)))
theorem d_facts {w2 w4 : World} {g : Nat} {a b c d : Value} (hres : w2.heap[g]? = some (.cells #[c, d] 40 (0, 0)))
    (h : Below ((w2.alloc (.cells dcells 9)).alloc (.cells #[a, b] 40)).heap.size ((w2.alloc (.cells dcells 9)).alloc (.cells #[a, b] 40)) w4) :
    w4.heap[g]? = some (.cells #[c, d] 40 (0, 0)) ∧ w4.heap[w2.heap.size + 1]? = some (.cells #[a, b] 40 (0, 0)) ∧ Below w2.heap.size w2 w4 := by
  have hlt := lt_of_block hres
  have e1 : (w2.alloc (.cells dcells 9)).heap.size = w2.heap.size + 1 := by show (w2.heap.push _).size = _; simp
  have e2 : ((w2.alloc (.cells dcells 9)).alloc (.cells #[a, b] 40)).heap.size = w2.heap.size + 2 := by show ((w2.alloc _).heap.push _).size = _; simp
  refine ⟨?_, ?_, ?_⟩
  · rw [h.block _ (by omega), Below.heap_alloc _ _ _ (by omega), Below.heap_alloc _ _ _ (by omega)]; exact hres
  · rw [h.block _ (by omega)]
    have := heap_alloc_new (w2.alloc (.cells dcells 9)) (.cells #[a, b] 40)
    rw [e1] at this; exact this
  · exact ((((Below.refl _ _).alloc (Nat.le_refl _) _).alloc (by omega) _).trans (h.mono (by omega)))
/-- a struct of two numbers in memory and a code are handed back -/
theorem results_deed {fn : Func} {p u : Tmp} (h : fn.results = #[.cell p 40, .tmp u]) (tmps : Array Value) (w : World) (g : Nat) (a b : Value)
    (hp : tmps.getD p undef = .pointer (some ⟨g, 0, none⟩)) (hg : w.heap[g]? = some (.cells #[a, b] 40 (0, 0))) :
    (results fn tmps).run Tryd.prog w = .ok (.tuple #[.agg #[a, b], tmps.getD u undef]) w := by
  have hp' : tmps[p]?.getD undef = .pointer (some ⟨g, 0, none⟩) := by simpa using hp
  simp [results, h, hp', asAddr, run_loadVar_row w g 40 40 #[a, b] (0, 0) _ hg Tryd.underlying40 rfl (by show _ = some 2; kernel_rfl)]
theorem set2 {w : World} {g : Nat} {a b c d : Value} {T : TypeId} (h : w.heap[g]? = some (.cells #[a, b] T (0, 0))) :
    ((w.setCell ⟨g, 0, none⟩ c).setCell ⟨g, 1, none⟩ d).heap[g]? = some (.cells #[c, d] T (0, 0)) := by
  simp [World.setCell, Array.getElem?_modify, h]
set_option maxHeartbeats 1000000 in
theorem ReadDeed_any (s : ByteArray) (w : World) (hG : Gl w) (hs : s.size ≤ 1048576) :
    Calls Tryd.prog 27 #[.string s] w fun e w' => e = .returned (deedRet (readDeed s.data.toList)) ∧ Below w.heap.size w w' := by
  have hsz := cut_size s
  by_cases ho : numOk (rdRest s.data.toList) = true
  · by_cases hv : validDeed (kindOf (rdWord s.data.toList)) (numOf (rdRest s.data.toList)) = true
    · have hr : readDeed s.data.toList = (kindOf (rdWord s.data.toList), numOf (rdRest s.data.toList), 0) := by unfold readDeed deedGood; simp [ho, hv]
      have Hr := Lib.hid hr
      clear hr
      go_enter Tryd.func27, Tryd.ntmps27
      go_wp2_with (go_at_call 94; refine (Tryd.strings_Cut_shaped s _ _ (hG.alloc _).shaped (by omega)).mono ?_; rintro e w1 ⟨rfl, n, rfl⟩)
      refine (number_any ⟨(rdRest s.data.toList).toArray⟩ _ ((hG.alloc _).drewN n) (by omega)).mono ?_
      rintro e w2 ⟨rfl, hb2⟩
      obtain ⟨hres, hb⟩ := res_facts w n w2 hb2
      clear hb2
      obtain ⟨c0, c1, f0, f1⟩ := blk2 hres
      have hlt := lt_of_block hres
      go_wp2_with (go_at_call 97; refine (deedWords_any _).mono ?_; rintro e w3 ⟨rfl, rfl⟩)
      refine (kind_any (rdWord s.data.toList) w2).mono ?_
      rintro e w3 ⟨rfl, rfl⟩
      go_wp2_with (go_at_call 98; refine (ValidDeed_any _ _ _).mono ?_; rintro e w4 ⟨rfl, hb4⟩; obtain ⟨hr4, hd4, hb24⟩ := d_facts hres hb4; obtain ⟨d0, d1, g0, g1⟩ := blk2 hr4; obtain ⟨e0, e1, i0, i1⟩ := blk2 hd4; clear hb4; have hlt4 := lt_of_block hd4)
      refine bodyPost_ret (results_deed Tryd.results27 _ _ w.heap.size _ _ rfl (set2 hr4)) rfl ⟨?_, ?_⟩
      · rw [Hr.out]; rfl
      · exact ((hb.trans (hb24.mono (by omega))).setCell (Nat.le_refl _) _).setCell (Nat.le_refl _) _
    · have hr : readDeed s.data.toList = (0, 0, 5) := by unfold readDeed deedGood; simp [ho, hv]
      have Hr := Lib.hid hr
      have hv' : validDeed (kindOf (rdWord s.data.toList)) (numOf (rdRest s.data.toList)) = false := by simpa using hv
      clear hr hv
      go_enter Tryd.func27, Tryd.ntmps27
      go_wp2_with (go_at_call 94; refine (Tryd.strings_Cut_shaped s _ _ (hG.alloc _).shaped (by omega)).mono ?_; rintro e w1 ⟨rfl, n, rfl⟩)
      refine (number_any ⟨(rdRest s.data.toList).toArray⟩ _ ((hG.alloc _).drewN n) (by omega)).mono ?_
      rintro e w2 ⟨rfl, hb2⟩
      obtain ⟨hres, hb⟩ := res_facts w n w2 hb2
      clear hb2
      obtain ⟨c0, c1, f0, f1⟩ := blk2 hres
      have hlt := lt_of_block hres
      go_wp2_with (go_at_call 97; refine (deedWords_any _).mono ?_; rintro e w3 ⟨rfl, rfl⟩)
      refine (kind_any (rdWord s.data.toList) w2).mono ?_
      rintro e w3 ⟨rfl, rfl⟩
      go_wp2_with (go_at_call 98; refine (ValidDeed_any _ _ _).mono ?_; rintro e w4 ⟨rfl, hb4⟩; obtain ⟨hr4, hd4, hb24⟩ := d_facts hres hb4; obtain ⟨d0, d1, g0, g1⟩ := blk2 hr4; obtain ⟨e0, e1, i0, i1⟩ := blk2 hd4; clear hb4; have hlt4 := lt_of_block hd4)
      refine bodyPost_ret (results_deed Tryd.results27 _ _ w.heap.size _ _ rfl (set2 hr4)) rfl ⟨?_, ?_⟩
      · rw [Hr.out]; rfl
      · exact ((hb.trans (hb24.mono (by omega))).setCell (Nat.le_refl _) _).setCell (Nat.le_refl _) _
  · have hr : readDeed s.data.toList = (0, 0, 5) := by unfold readDeed deedGood; simp [ho]
    have Hr := Lib.hid hr
    have ho' : numOk (rdRest s.data.toList) = false := by simpa using ho
    clear hr ho
    go_enter Tryd.func27, Tryd.ntmps27
    go_wp2_with (go_at_call 94; refine (Tryd.strings_Cut_shaped s _ _ (hG.alloc _).shaped (by omega)).mono ?_; rintro e w1 ⟨rfl, n, rfl⟩)
    refine (number_any ⟨(rdRest s.data.toList).toArray⟩ _ ((hG.alloc _).drewN n) (by omega)).mono ?_
    rintro e w2 ⟨rfl, hb2⟩
    obtain ⟨hres, hb⟩ := res_facts w n w2 hb2
    clear hb2
    obtain ⟨c0, c1, f0, f1⟩ := blk2 hres
    have hlt := lt_of_block hres
    go_wp2_with (go_at_call 97; refine (deedWords_any _).mono ?_; rintro e w3 ⟨rfl, rfl⟩)
    refine (kind_any (rdWord s.data.toList) w2).mono ?_
    rintro e w3 ⟨rfl, rfl⟩
    go_wp2
    refine bodyPost_ret (results_deed Tryd.results27 _ _ w.heap.size _ _ rfl ((Below.heap_alloc _ _ _ ?_).trans ((Below.heap_alloc _ _ _ ?_).trans (set2 hres)))) rfl ⟨?_, ?_⟩
    · show _ < _; simp; omega
    · show _ < _; simp; omega
    · rw [Hr.out]; rfl
    · exact (((hb.setCell (Nat.le_refl _) _).setCell (Nat.le_refl _) _).alloc (by simp; omega) _).alloc (by simp; omega) _

/-! the reference: l01Split -/
def spl (s : ByteArray) (b : UInt8) : Nat → List ByteArray × Nat
  | 0 => ([], 0)
  | k + 1 => if s.data.toList[k]? = some b then ((spl s b k).1 ++ [s.extract (spl s b k).2 k], k + 1) else spl s b k
theorem spl_le (s : ByteArray) (b : UInt8) : ∀ k, (spl s b k).1.length ≤ k ∧ (spl s b k).2 ≤ k
  | 0 => by simp [spl]
  | k + 1 => by
    have := spl_le s b k
    unfold spl
    split
    · simp; omega
    · omega
def split (s : ByteArray) (b : UInt8) : List ByteArray := (spl s b s.size).1 ++ [s.extract (spl s b s.size).2 s.size]
theorem spl_hit {s : ByteArray} {b : UInt8} {k : Nat} (h : k < s.size) (hc : s[k] = b) : spl s b (k + 1) = ((spl s b k).1 ++ [s.extract (spl s b k).2 k], k + 1) := by
  have : s.data.toList[k]? = some b := by
    rw [Array.getElem?_toList, Array.getElem?_eq_getElem (show k < s.data.size from h)]; exact congrArg some hc
  rw [spl, if_pos this]
theorem spl_miss {s : ByteArray} {b : UInt8} {k : Nat} (h : k < s.size) (hc : ¬ s[k] = b) : spl s b (k + 1) = spl s b k := by
  have : ¬ s.data.toList[k]? = some b := by
    rw [Array.getElem?_toList, Array.getElem?_eq_getElem (show k < s.data.size from h)]
    intro e; exact hc (Option.some.inj e)
  rw [spl, if_neg this]
theorem info_string : (Tryd.prog.info? 9).map (fun i => (i.zero, i.size, i.bytes)) = some (some (.string ByteArray.empty), 1, 16) := by kernel_rfl
set_option maxRecDepth 100000 in
set_option maxHeartbeats 1000000 in
theorem l01Split_any (s : ByteArray) (b : UInt8) (w : World) (hs : s.size ≤ 1048576) :
    Calls Tryd.prog 90 #[.string s, .int .u8 b.toNat] w fun e w' => ∃ v, e = .returned v ∧ w'.ownsRow w.heap.size 9 1 v (split s b).length ((split s b).map Value.string) ∧ Below w.heap.size w w' := by
  obtain ⟨i0, hi, hz0, hz1, hz2⟩ := info_parts info_string
  go_enter Tryd.func90, Tryd.ntmps90
  go_wp2
  go_loopw [5, 6, 7] (fun v f i wr => ∃ k : Nat, k ≤ s.size ∧ i = .int .i64 k ∧ f = .int .i64 (spl s b k).2 ∧ wr.ownsRow w.heap.size 9 1 v (spl s b k).1.length ((spl s b k).1.map Value.string) ∧ Below w.heap.size w wr)
    (fun _ _ i _ => s.size - (intOf i).toNat)
  case atStart =>
    refine ⟨0, Nat.zero_le _, rfl, rfl, ?_, (Below.refl _ _).alloc (Nat.le_refl _) _⟩
    exact World.ownsRow_lit (base := w.heap.size) (e := 9) (size := 1) w #[] 0 (Nat.le_refl _) (by simp [maxLen]) rfl
  case round =>
    obtain ⟨k, hk, rfl, rfl, hown, hb⟩ := hrel
    have hle := spl_le s b k
    by_cases hlt : k < s.size
    · by_cases hc : s[k] = b
      · have htb : ((s[k].toNat : Int) == (b.toNat : Int)) = true := by rw [hc]; simp
        have Hk := Lib.hid (spl_hit hlt hc)
        clear hc
        go_wp2_with (at_builtin; refine wpList_append_own _ rfl _ _ 33 rfl w.heap.size 9 i0 (.string ByteArray.empty) 1 16 Tryd.underlying33 hi hz0 hz1 hz2 rfl (by decide) _ _ _ rfl (hown.alloc _) ⟨wr.heap.size, 0, none⟩ 1 1 [.string (s.extract (spl s b k).2 k)] rfl rfl ?c1 ?c2 ?c3 ?c4 ?c5 ?_)
        case c1 =>
          intro j u hj
          match j, hj with
          | 0, hj => simp at hj; subst hj; simp [Addr.add]
        case c2 => intro u hu; simp at hu; subst hu; rfl
        case c3 => unfold maxLen; omega
        case c4 => omega
        case c5 => have := hb.size; simp; omega
        intro v' w1 hown' hgrow _
        have hb' := Below.grown (hb.alloc hb.size _) hgrow (by have := hb.size; simp; omega) (fun j hj => (hown.lt j hj).1)
        clear hown hgrow
        go_wp2
        go_roundw
        case rel => exact ⟨k + 1, by omega, by go_num, by rw [Hk.out]; go_num, by rw [Hk.out]; simpa using hown', hb'⟩
        case measure => simp [intOf]; omega
      · have htb : ((s[k].toNat : Int) == (b.toNat : Int)) = false := by simp; intro e; exact hc (UInt8.toNat_inj.1 (by omega))
        have Hk := Lib.hid (spl_miss hlt hc)
        clear hc
        go_wp2
        go_roundw
        case rel => exact ⟨k + 1, by omega, by go_num, by rw [Hk.out], by rw [Hk.out]; exact hown, hb⟩
        case measure => simp [intOf]; omega
    · obtain rfl : k = s.size := by omega
      go_wp2_with (at_builtin; refine wpList_append_own _ rfl _ _ 33 rfl w.heap.size 9 i0 (.string ByteArray.empty) 1 16 Tryd.underlying33 hi hz0 hz1 hz2 rfl (by decide) _ _ _ rfl (hown.alloc _) ⟨wr.heap.size, 0, none⟩ 1 1 [.string (s.extract (spl s b s.size).2 s.size)] rfl rfl ?d1 ?d2 ?d3 ?d4 ?d5 ?_)
      case d1 =>
        intro j u hj
        match j, hj with
        | 0, hj => simp at hj; subst hj; simp [Addr.add]
      case d2 => intro u hu; simp at hu; subst hu; rfl
      case d3 => unfold maxLen; omega
      case d4 => omega
      case d5 => have := hb.size; simp; omega
      intro v' w1 hown' hgrow _
      have hb' := Below.grown (hb.alloc hb.size _) hgrow (by have := hb.size; simp; omega) (fun j hj => (hown.lt j hj).1)
      clear hown hgrow
      go_wp2
      go_ret
      exact ⟨_, rfl, by unfold split; simpa using hown', hb'⟩

/-! l01Number -/
def isDig (c : UInt8) : Bool := decide (48 ≤ c.toNat) && decide (c.toNat ≤ 57)
def val (l : List UInt8) : Int := l.foldl (fun n c => n * 10 + ((c.toNat : Int) - 48)) 0
def numBad (l : List UInt8) : Bool := decide (l.length < 1) || decide (9 < l.length) || (decide (l.head? = some 48) && decide (1 < l.length))
def numR (l : List UInt8) : Int × Bool := if numBad l || !l.all isDig then (0, false) else (val l, true)
theorem val_snoc (l : List UInt8) (c : UInt8) : val (l ++ [c]) = val l * 10 + ((c.toNat : Int) - 48) := by simp [val]
theorem val_bound : ∀ (l : List UInt8), l.all isDig = true → 0 ≤ val l ∧ val l < 10 ^ l.length := by
  have h : ∀ (n : Nat) (l : List UInt8), l.length = n → l.all isDig = true → 0 ≤ val l ∧ val l < 10 ^ n := by
    intro n
    induction n with
    | zero => intro l hl _; rw [List.length_eq_zero_iff] at hl; subst hl; decide
    | succ n ih =>
      intro l hl hd
      have hne : l ≠ [] := by intro e; subst e; simp at hl
      have e := List.dropLast_concat_getLast hne
      rw [← e] at hd ⊢
      rw [List.all_append, Bool.and_eq_true] at hd
      have := ih l.dropLast (by simp; omega) hd.1
      have hc := hd.2
      simp [isDig] at hc
      rw [val_snoc]
      have h10 : (10 : Int) ^ (n + 1) = 10 ^ n * 10 := by rw [Int.pow_succ]
      omega
  exact fun l hd => h l.length l rfl hd
theorem pow_bound {x : Int} {n : Nat} (h : x < 10 ^ n) (hn : n ≤ 9) : x < 1000000000 := by
  have : ∀ m, m ≤ 9 → (10 : Int) ^ m ≤ 1000000000 := by decide
  have := this n hn
  omega
theorem take_snoc (s : ByteArray) (k : Nat) (h : k < s.size) : s.data.toList.take (k + 1) = s.data.toList.take k ++ [s[k]] := by
  rw [List.take_succ_eq_append_getElem (by simpa using h)]; rfl
set_option maxRecDepth 100000 in
set_option maxHeartbeats 2000000 in
theorem l01Number_any (s : ByteArray) (w : World) (hs : s.size ≤ 1048576) :
    Calls Tryd.prog 92 #[.string s] w fun e w' => e = .returned (.tuple #[.int .i64 (numR s.data.toList).1, .bool (numR s.data.toList).2]) ∧ w = w' := by
  have hlen : s.data.toList.length = s.size := by rw [Array.length_toList]; rfl
  by_cases h0 : s.size < 1
  · have hr : numR s.data.toList = (0, false) := by unfold numR numBad; rw [hlen]; simp [h0]
    have Hr := Lib.hid hr
    clear hr hlen
    go_enter Tryd.func92, Tryd.ntmps92
    go_wp2
    go_ret2
    exact ⟨by rw [Hr.out]; rfl, rfl⟩
  by_cases h9 : 9 < s.size
  · have hr : numR s.data.toList = (0, false) := by unfold numR numBad; rw [hlen]; simp [h9]
    have Hr := Lib.hid hr
    clear hr hlen
    go_enter Tryd.func92, Tryd.ntmps92
    go_wp2
    go_ret2
    exact ⟨by rw [Hr.out]; rfl, rfl⟩
  have hp : 0 < s.size := by omega
  have hhd : s.data.toList.head? = some s[0] := by
    rw [List.head?_eq_getElem?, Array.getElem?_toList, Array.getElem?_eq_getElem (show 0 < s.data.size from hp)]; rfl
  by_cases hz : s[0] = 48 ∧ 1 < s.size
  · have hr : numR s.data.toList = (0, false) := by unfold numR numBad; rw [hlen, hhd]; simp [hz.1, hz.2]
    have Hr := Lib.hid hr
    have h1 := hz.2
    have hb : ((s[0].toNat : Int) == 48) = true := by rw [hz.1]; rfl
    clear hr hlen hhd hz
    go_enter Tryd.func92, Tryd.ntmps92
    go_wp2
    go_ret2
    exact ⟨by rw [Hr.out]; rfl, rfl⟩
  have hbad : numBad s.data.toList = false := by
    unfold numBad; rw [hlen, hhd]; simp only [Bool.or_eq_false_iff, Bool.and_eq_false_iff, decide_eq_false_iff_not]
    refine ⟨⟨h0, h9⟩, ?_⟩
    by_cases e : s[0] = 48
    · right; exact fun h => hz ⟨e, h⟩
    · left; intro h; exact e (Option.some.inj h)
  have Hbad := Lib.hid hbad
  have Hlen := Lib.hid hlen
  have tail : ∀ w : World, Calls Tryd.prog 92 #[.string s] w fun e w' => e = .returned (.tuple #[.int .i64 (numR s.data.toList).1, .bool (numR s.data.toList).2]) ∧ w = w' := by
    intro w
    have fin : ∀ k, k < s.size → ∀ hk : k < s.size, isDig (s[k]'hk) = false → numR s.data.toList = (0, false) := by
      intro k _ hk hd
      unfold numR
      have : s.data.toList.all isDig = false := by
        rw [List.all_eq_false]
        exact ⟨s[k], by rw [Array.mem_toList_iff]; exact Array.getElem_mem _, by simpa using hd⟩
      rw [this]; simp
    have fin2 : s.data.toList.all isDig = true → numR s.data.toList = (val s.data.toList, true) := by
      intro h; unfold numR; rw [h, hbad]; rfl
    have Fin := Lib.hid fin
    have Fin2 := Lib.hid fin2
    clear fin fin2
    by_cases e1 : 1 < s.size
    · have hb : ((s[0].toNat : Int) == 48) = false := by
        simp; intro e; exact hz ⟨UInt8.toNat_inj.1 (by simpa using (show s[0].toNat = 48 by omega)), e1⟩
      clear hhd hz hbad hlen
      go_enter Tryd.func92, Tryd.ntmps92
      go_wp2
      go_loop [4, 5] (fun n i => ∃ k : Nat, k ≤ s.size ∧ i = .int .i64 k ∧ n = .int .i64 (val (s.data.toList.take k)) ∧ (s.data.toList.take k).all isDig = true) (fun _ i => s.size - (intOf i).toNat)
      case atStart => exact ⟨0, Nat.zero_le _, rfl, rfl, rfl⟩
      case round =>
        obtain ⟨k, hk, rfl, rfl, hall⟩ := hrel
        have hvb := val_bound _ hall
        have hvu : val (s.data.toList.take k) < 1000000000 := pow_bound hvb.2 (by rw [List.length_take]; omega)
        obtain ⟨hv0, _⟩ := hvb
        have Hall := Lib.hid hall
        clear hall
        by_cases hlt : k < s.size
        · have Hts := Lib.hid (take_snoc s k hlt)
          by_cases hd : isDig s[k] = true
          · obtain ⟨hd1, hd2⟩ : 48 ≤ (s[k].toNat : Int) ∧ (s[k].toNat : Int) ≤ 57 := by simp [isDig] at hd; omega
            have Hd := Lib.hid hd
            clear hd
            go_wp2
            go_round
            case rel => exact ⟨k + 1, by omega, by go_num, by rw [Hts.out, val_snoc], by rw [Hts.out, List.all_append, Hall.out]; simp [Hd.out]⟩
            case measure => simp [intOf]; omega
          · have Hf := Lib.hid (Fin.out k hlt hlt (by simpa using hd))
            have hd' : (s[k].toNat : Int) < 48 ∨ 57 < (s[k].toNat : Int) := by simp [isDig] at hd; omega
            clear hd
            rcases hd' with hd' | hd'
            · go_wp2
              go_ret2
              exact ⟨by rw [Hf.out]; rfl, rfl⟩
            · go_wp2
              go_ret2
              exact ⟨by rw [Hf.out]; rfl, rfl⟩
        · obtain rfl : k = s.size := by omega
          have Hf := Lib.hid (Fin2.out (by have := Hall.out; rwa [List.take_of_length_le (by rw [Hlen.out]; omega)] at this))
          go_wp2
          go_ret2
          exact ⟨by rw [Hf.out, List.take_of_length_le (by rw [Hlen.out]; omega)]; rfl, rfl⟩
    · clear hhd hz hbad hlen
      go_enter Tryd.func92, Tryd.ntmps92
      go_wp2
      all_goals
        go_loop [4, 5] (fun n i => ∃ k : Nat, k ≤ s.size ∧ i = .int .i64 k ∧ n = .int .i64 (val (s.data.toList.take k)) ∧ (s.data.toList.take k).all isDig = true) (fun _ i => s.size - (intOf i).toNat)
        case atStart => exact ⟨0, Nat.zero_le _, rfl, rfl, rfl⟩
        case round =>
          obtain ⟨k, hk, rfl, rfl, hall⟩ := hrel
          have hvb := val_bound _ hall
          have hvu : val (s.data.toList.take k) < 1000000000 := pow_bound hvb.2 (by rw [List.length_take]; omega)
          obtain ⟨hv0, _⟩ := hvb
          have Hall := Lib.hid hall
          clear hall
          by_cases hlt : k < s.size
          · have Hts := Lib.hid (take_snoc s k hlt)
            by_cases hd : isDig s[k] = true
            · obtain ⟨hd1, hd2⟩ : 48 ≤ (s[k].toNat : Int) ∧ (s[k].toNat : Int) ≤ 57 := by simp [isDig] at hd; omega
              have Hd := Lib.hid hd
              clear hd
              go_wp2
              go_round
              case rel => exact ⟨k + 1, by omega, by go_num, by rw [Hts.out, val_snoc], by rw [Hts.out, List.all_append, Hall.out]; simp [Hd.out]⟩
              case measure => simp [intOf]; omega
            · have Hf := Lib.hid (Fin.out k hlt hlt (by simpa using hd))
              have hd' : (s[k].toNat : Int) < 48 ∨ 57 < (s[k].toNat : Int) := by simp [isDig] at hd; omega
              clear hd
              rcases hd' with hd' | hd'
              · go_wp2
                go_ret2
                exact ⟨by rw [Hf.out]; rfl, rfl⟩
              · go_wp2
                go_ret2
                exact ⟨by rw [Hf.out]; rfl, rfl⟩
          · obtain rfl : k = s.size := by omega
            have Hf := Lib.hid (Fin2.out (by have := Hall.out; rwa [List.take_of_length_le (by rw [Hlen.out]; omega)] at this))
            go_wp2
            go_ret2
            exact ⟨by rw [Hf.out, List.take_of_length_le (by rw [Hlen.out]; omega)]; rfl, rfl⟩
  exact tail w

end Go.Proofs.YtgeljcnlegbedaaDoor
