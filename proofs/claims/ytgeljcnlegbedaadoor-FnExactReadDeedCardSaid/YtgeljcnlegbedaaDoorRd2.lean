/- The walk of spec.ReadDeed: it answers as a plain function on lists says. Conditions: as for impl.ReadDeed. -/
import Derived.Test.YtgeljcnlegbedaaDoorRd
namespace Go.Proofs.YtgeljcnlegbedaaDoor
open Go.RowKit

/-! the reference's ReadDeed -/
theorem own_some {w : World} {base : Nat} {e : TypeId} {v : Value} {n : Nat} {xs : List Value} (h : w.ownsRow base e 1 v n xs) (hn : 0 < n) :
    ∃ g cap cur, v = .slice (some ⟨g, 0, none⟩) n cap ∧ base ≤ g ∧ g < w.heap.size ∧ n ≤ cap ∧ w.heap[g]? = some (.cells cur e (0, 0)) ∧ cur.toList.take n = xs := by
  obtain ⟨h1, ⟨_, h2⟩ | ⟨g, cap, cur, rfl, hg, hh, hnc, _, _, htake⟩⟩ := h
  · omega
  · exact ⟨g, cap, cur, rfl, hg, lt_of_block hh, hnc, hh, by simpa using htake⟩
theorem blk_old {w : World} {g : Nat} {o : Obj} (h : w.heap[g]? = some o) (o' : Obj) : (w.alloc o').heap[g]? = some o := (Below.heap_alloc w o' g (lt_of_block h)).trans h
theorem Below.drewN_ {B : Nat} {w W : World} (h : Below B w W) (n : Nat) : Below B w (W.drewN n) := ⟨h.os, h.tape, h.output, h.size, h.block⟩
theorem blk_set0 {w : World} {g : Nat} {o : Obj} (h : w.heap[g]? = some o) {n : Nat} {p : Addr} (hne : g ≠ p.block) {u : Value} : ((w.drewN n).setCell p u).heap[g]? = some o := (Below.heap_setCell _ _ _ _ hne).trans h
theorem set1 {w : World} {g : Nat} {a b c : Value} {T : TypeId} (h : w.heap[g]? = some (.cells #[a, b] T (0, 0))) {n : Nat} : ((w.drewN n).setCell ⟨g, 0, none⟩ c).heap[g]? = some (.cells #[c, b] T (0, 0)) := by
  simp [World.setCell, Array.getElem?_modify, h]
theorem below_new {w w1 : World} {o : Obj} (h : Below (w.alloc o).heap.size (w.alloc o) w1) : w1.heap[w.heap.size]? = some o := by
  rw [h.block _ (by show _ < (w.heap.push o).size; simp)]; exact heap_alloc_new w o
theorem below_alloc1 {w w1 : World} {o : Obj} (h : Below (w.alloc o).heap.size (w.alloc o) w1) : Below w.heap.size w w1 :=
  ((Below.refl _ _).alloc (Nat.le_refl _) o).trans (h.mono (by show _ ≤ (w.heap.push o).size; simp))
def dz (k : Nat) : ByteArray := dzs.getD k ByteArray.empty
def kTo (l0 : ByteArray) : Nat → Int
  | 0 => 0
  | k + 1 => if 1 ≤ k ∧ dz k = l0 then k else kTo l0 k
theorem kTo_hit {l0 : ByteArray} {k : Nat} (h1 : 1 ≤ k) (h : dz k = l0) : kTo l0 (k + 1) = k := by rw [kTo, if_pos ⟨h1, h⟩]
theorem kTo_miss {l0 : ByteArray} {k : Nat} (h : ¬ dz k = l0) : kTo l0 (k + 1) = kTo l0 k := by rw [kTo, if_neg (fun e => h e.2)]
theorem dcell (w : World) (b k : Nat) (hk : k < 7) (h : w.heap[b]? = some (.cells dcells 9 (0, 0))) : w.cell? ⟨b, k, none⟩ = some (.string (dz k)) := by
  rw [cell_of_row w b k dcells 9 (0, 0) h]
  match k, hk with
  | 0, _ => rfl
  | 1, _ => rfl
  | 2, _ => rfl
  | 3, _ => rfl
  | 4, _ => rfl
  | 5, _ => rfl
  | 6, _ => rfl
def kindS (s : ByteArray) : Int := kTo ((split s 32).getD 0 ByteArray.empty) 7
def deedGoodS (s : ByteArray) : Bool := !(kindS s == 0) && decide ((split s 32).length = 2) && (numR ((split s 32).getD 1 ByteArray.empty).data.toList).2 && validDeed (kindS s) (numR ((split s 32).getD 1 ByteArray.empty).data.toList).1
def readDeedS (s : ByteArray) : Int × Int × Int := if deedGoodS s then (kindS s, (numR ((split s 32).getD 1 ByteArray.empty).data.toList).1, 0) else (0, 0, 5)
theorem spl_size (s : ByteArray) (b : UInt8) : ∀ k, ∀ x ∈ (spl s b k).1, x.size ≤ s.size
  | 0 => by simp [spl]
  | k + 1 => by
    have ih := spl_size s b k
    unfold spl
    split
    · intro x hx
      rcases List.mem_append.1 hx with hx | hx
      · exact ih x hx
      · rw [List.mem_singleton.1 hx, ByteArray.size_extract]; omega
    · exact ih
theorem split_size (s : ByteArray) (b : UInt8) (i : Nat) : ((split s b).getD i ByteArray.empty).size ≤ s.size := by
  rw [List.getD_eq_getElem?_getD]
  cases h : (split s b)[i]? with
  | none => simp
  | some x =>
    have hx := List.mem_of_getElem? h
    unfold split at hx
    rcases List.mem_append.1 hx with hx | hx
    · exact spl_size s b _ x hx
    · rw [List.mem_singleton.1 hx]; simp [ByteArray.size_extract]
theorem setb {w : World} {g : Nat} {a b c : Value} {T : TypeId} (h : w.heap[g]? = some (.cells #[a, b] T (0, 0))) : (w.setCell ⟨g, 1, none⟩ c).heap[g]? = some (.cells #[a, c] T (0, 0)) := by
  simp [World.setCell, Array.getElem?_modify, h]
theorem far1 {w : World} {g h : Nat} {o : Obj} (hg : w.heap[g]? = some o) (hne : g ≠ h) {j : Nat} {u : Value} : (w.setCell ⟨h, j, none⟩ u).heap[g]? = some o := (Below.heap_setCell _ _ _ _ hne).trans hg
theorem below_keep {w w1 : World} (h : Below w.heap.size w w1) {g : Nat} {o : Obj} (hg : w.heap[g]? = some o) : w1.heap[g]? = some o := (h.block g (lt_of_block hg)).trans hg
theorem rdS_bad (s : ByteArray) (h : deedGoodS s = false) : readDeedS s = (0, 0, 5) := by unfold readDeedS; rw [h]; rfl
theorem neq_of {a b : ByteArray} (h : ¬ a = b) : (a.toList == b.toList) = false := by
  rw [ByteArray.toList_eq, ByteArray.toList_eq]
  simp; intro e; exact h (WideShapes.bytes_inj (by simpa using congrArg Array.toList e))
theorem split_pos (s : ByteArray) (b : UInt8) : 0 < (split s b).length := by simp [split]

set_option maxRecDepth 100000 in
set_option maxHeartbeats 4000000 in
theorem specReadDeed_any (s : ByteArray) (w : World) (hs : s.size ≤ 1048576) :
    Calls Tryd.prog 26 #[.string s] w fun e w' => e = .returned (deedRet (readDeedS s)) ∧ Below w.heap.size w w' := by
  go_enter Tryd.func26, Tryd.ntmps26
  go_wp2_with (fail)
  refine (l01Split_any s 32 _ hs).mono ?_
  rintro e w1 ⟨v, rfl, hown, hb1⟩
  obtain ⟨g, cap, cur, rfl, hg1, hg2, hcap, hg, htake⟩ := own_some hown (split_pos s 32)
  have hres := below_new hb1
  have hbw := below_alloc1 hb1
  clear hb1 hown
  obtain ⟨l0, hl0⟩ : ∃ l0, l0 = (split s 32).getD 0 ByteArray.empty := ⟨_, rfl⟩
  have hcur0 : cur[0]? = some (.string l0) := by
    have e : (cur.toList.take (split s 32).length)[0]? = some (.string l0) := by
      rw [htake, hl0]
      have := split_pos s 32
      cases hsp : split s 32 with
      | nil => rw [hsp] at this; simp at this
      | cons a r => rfl
    rw [List.getElem?_take] at e
    rw [if_pos (split_pos s 32)] at e
    simpa using e
  have HL0 := Lib.hid hl0
  have Htake := Lib.hid htake
  have hlt1 := lt_of_block hres
  have hw2 : (((w1.alloc (.cells dcells 9)).alloc (.cells #[.int .i64 0, .int .i64 0] 40)).heap[w1.heap.size]? = some (.cells dcells 9 (0, 0))) := blk_old (heap_alloc_new w1 _) _
  have hd2 : (((w1.alloc (.cells dcells 9)).alloc (.cells #[.int .i64 0, .int .i64 0] 40)).heap[w1.heap.size + 1]? = some (.cells #[.int .i64 0, .int .i64 0] 40 (0, 0))) := by
    have := heap_alloc_new (w1.alloc (.cells dcells 9)) (.cells #[.int .i64 0, .int .i64 0] 40)
    simpa using this
  have hr2 := blk_old (blk_old hres (.cells dcells 9)) (.cells #[.int .i64 0, .int .i64 0] 40)
  have hg2' := blk_old (blk_old hg (.cells dcells 9)) (.cells #[.int .i64 0, .int .i64 0] 40)
  have hbw2 := (hbw.alloc hbw.size (.cells dcells 9)).alloc (by have := hbw.size; simp; omega) (.cells #[.int .i64 0, .int .i64 0] 40)
  clear hl0 htake hbw hres hg
  go_wp2_with (go_at_call 91; refine (l08Words_any _).mono ?_; rintro e w3 ⟨rfl, rfl⟩)
  go_loopw [7] (fun i wr => ∃ k : Nat, 1 ≤ k ∧ k ≤ 7 ∧ i = .int .i64 k ∧ wr.heap[w.heap.size]? = some (.cells #[.int .i64 0, .int .i64 0] 40 (0, 0)) ∧ wr.heap[g]? = some (.cells cur 9 (0, 0)) ∧
      wr.heap[w1.heap.size]? = some (.cells dcells 9 (0, 0)) ∧ wr.heap[w1.heap.size + 1]? = some (.cells #[.int .i64 (kTo l0 k), .int .i64 0] 40 (0, 0)) ∧ Below w.heap.size w wr)
    (fun i _ => 7 - (intOf i).toNat)
  case atStart => exact ⟨1, by omega, by omega, rfl, hr2, hg2', hw2, hd2, hbw2⟩
  case round =>
    obtain ⟨k, hk1, hk7, rfl, hr, hl, hw, hd, hb⟩ := hrel
    have cl := cell_of_row wr g 0 cur 9 (0, 0) hl
    rw [hcur0] at cl
    obtain ⟨d0, d1, f0, f1⟩ := blk2 hd
    have hsp := split_pos s 32
    by_cases hlt : k < 7
    · have cw := dcell wr w1.heap.size k hlt hw
      by_cases he : dz k = l0
      · have Hk := Lib.hid (kTo_hit hk1 he)
        have hq : (l0.toList == l0.toList) = true := by simp
        rw [he] at cw
        clear he
        go_wp2
        go_quiet (fail)
        go_wp2
        go_roundw
        case rel => exact ⟨k + 1, by omega, by omega, by go_num, blk_set0 hr (by show _ ≠ w1.heap.size + 1; omega), blk_set0 hl (by show _ ≠ w1.heap.size + 1; omega), blk_set0 hw (by show _ ≠ w1.heap.size + 1; omega), by rw [Hk.out]; exact set1 hd, (Below.drewN_ hb _).setCell (by show w.heap.size ≤ w1.heap.size + 1; omega) _⟩
        case measure => simp [intOf]; omega
      · have Hk := Lib.hid (kTo_miss (k := k) he)
        have hq := neq_of he
        generalize dz k = zk at cw hq
        go_wp2
        go_quiet (fail)
        go_wp2
        go_roundw
        case rel => exact ⟨k + 1, by omega, by omega, by go_num, hr, hl, hw, by rw [Hk.out]; exact hd, Below.drewN_ hb _⟩
        case measure => simp [intOf]; omega
    · obtain rfl : k = 7 := by omega
      obtain ⟨r0, r1, fr0, fr1⟩ := blk2 hr
      have Hks : Hid (kindS s = kTo l0 7) := by rw [HL0.out]; rfl
      by_cases hk0 : kTo l0 7 = 0
      · have Hr := Lib.hid (rdS_bad s (by unfold deedGoodS; rw [Hks.out, hk0]; rfl))
        have hkb : (kTo l0 7 == 0) = true := by rw [hk0]; rfl
        clear hk0
        generalize kTo l0 7 = kk at *
        go_wp2
        refine bodyPost_ret (results_deed Tryd.results26 _ _ w.heap.size _ _ rfl (set2 hr)) rfl ⟨?_, ?_⟩
        · rw [Hr.out]; rfl
        · exact (hb.setCell (Nat.le_refl _) _).setCell (Nat.le_refl _) _
      have hkb : (kTo l0 7 == 0) = false := by simpa using hk0
      by_cases h2 : (split s 32).length = 2
      · obtain ⟨l1, hl1⟩ : ∃ l1, l1 = (split s 32).getD 1 ByteArray.empty := ⟨_, rfl⟩
        have hcur1 : cur[1]? = some (.string l1) := by
          have e : (cur.toList.take (split s 32).length)[1]? = some (.string l1) := by
            rw [Htake.out, hl1]
            match hs2 : split s 32, h2 with
            | [a, b], _ => rfl
          rw [List.getElem?_take, if_pos (by omega)] at e
          simpa using e
        have cl1 := cell_of_row wr g 1 cur 9 (0, 0) hl
        rw [hcur1] at cl1
        have hsz1 : l1.size ≤ 1048576 := by rw [hl1]; exact Nat.le_trans (split_size s 32 1) hs
        have Hl1 := Lib.hid hl1
        have H2 := Lib.hid h2
        have hl2 : (((split s 32).length : Int) != 2) = false := by simp; omega
        have hl2' : ((split s 32).length != 2) = false := by simpa using h2
        have hgt : 1 < (split s 32).length := by omega
        clear hl1 hk0 hcur1 h2
        have Hgood : Hid (deedGoodS s = ((numR l1.data.toList).2 && validDeed (kTo l0 7) (numR l1.data.toList).1)) := by
          show _ = _
          unfold deedGoodS
          rw [Hks.out, ← Hl1.out, H2.out, hkb]; simp
        have Hres : Hid (readDeedS s = if deedGoodS s then (kTo l0 7, (numR l1.data.toList).1, 0) else (0, 0, 5)) := by
          show _ = _
          unfold readDeedS
          rw [Hks.out, ← Hl1.out]
        generalize kTo l0 7 = kk at *
        obtain ⟨nn, hnn⟩ : ∃ nn, nn = (numR l1.data.toList).1 := ⟨_, rfl⟩
        rw [← hnn] at Hgood Hres
        have Hnn := Lib.hid hnn
        clear hnn
        by_cases ho : (numR l1.data.toList).2 = true
        · by_cases hv : validDeed kk nn = true
          · have Hr : Hid (readDeedS s = (kk, nn, 0)) := by show _ = _; rw [Hres.out, Hgood.out, ho, hv]; rfl
            have Ho := Lib.hid ho
            clear ho
            go_wp2_with (fail)
            refine (l01Number_any l1 _ hsz1).mono ?_
            rintro e w5 ⟨rfl, rfl⟩
            rw [Ho.out, ← Hnn.out]
            have hd5 := setb hd (c := .int .i64 nn)
            have hr5 := far1 hr (h := w1.heap.size + 1) (by omega) (j := 1) (u := .int .i64 nn)
            obtain ⟨q0, q1, q2, q3⟩ := blk2 hd5
            go_wp2_with (go_at_call 93; refine (l08Deed_any _ _ _).mono ?_; rintro e w6 ⟨rfl, hb6⟩; have hr6 := below_keep hb6 hr5; have hd6 := below_keep hb6 hd5; obtain ⟨x0, x1, x2, x3⟩ := blk2 hr6; obtain ⟨y0, y1, y2, y3⟩ := blk2 hd6)
            refine bodyPost_ret (results_deed Tryd.results26 _ _ w.heap.size _ _ rfl (set2 hr6)) rfl ⟨?_, ?_⟩
            · rw [Hr.out]; rfl
            · exact (((hb.setCell (by show w.heap.size ≤ w1.heap.size + 1; omega) _).trans (hb6.mono (by have := hb.size; simp; omega))).setCell (Nat.le_refl _) _).setCell (Nat.le_refl _) _
          · have Hr : Hid (readDeedS s = (0, 0, 5)) := by show _ = _; rw [Hres.out, Hgood.out, ho, Bool.eq_false_iff.2 hv]; rfl
            have hv' : validDeed kk nn = false := by simpa using hv
            have Ho := Lib.hid ho
            clear ho hv
            go_wp2_with (fail)
            refine (l01Number_any l1 _ hsz1).mono ?_
            rintro e w5 ⟨rfl, rfl⟩
            rw [Ho.out, ← Hnn.out]
            have hd5 := setb hd (c := .int .i64 nn)
            have hr5 := far1 hr (h := w1.heap.size + 1) (by omega) (j := 1) (u := .int .i64 nn)
            obtain ⟨q0, q1, q2, q3⟩ := blk2 hd5
            go_wp2_with (go_at_call 93; refine (l08Deed_any _ _ _).mono ?_; rintro e w6 ⟨rfl, hb6⟩; have hr6 := below_keep hb6 hr5; have hd6 := below_keep hb6 hd5; obtain ⟨x0, x1, x2, x3⟩ := blk2 hr6; obtain ⟨y0, y1, y2, y3⟩ := blk2 hd6)
            refine bodyPost_ret (results_deed Tryd.results26 _ _ w.heap.size _ _ rfl (set2 hr6)) rfl ⟨?_, ?_⟩
            · rw [Hr.out]; rfl
            · exact (((hb.setCell (by show w.heap.size ≤ w1.heap.size + 1; omega) _).trans (hb6.mono (by have := hb.size; simp; omega))).setCell (Nat.le_refl _) _).setCell (Nat.le_refl _) _
        · have ho' : (numR l1.data.toList).2 = false := by simpa using ho
          have Hr : Hid (readDeedS s = (0, 0, 5)) := by show _ = _; rw [Hres.out, Hgood.out, ho']; rfl
          have Ho := Lib.hid ho'
          clear ho ho'
          go_wp2_with (fail)
          refine (l01Number_any l1 _ hsz1).mono ?_
          rintro e w5 ⟨rfl, rfl⟩
          rw [Ho.out, ← Hnn.out]
          go_wp2
          refine bodyPost_ret (results_deed Tryd.results26 _ _ w.heap.size _ _ rfl (set2 (far1 hr (by omega)))) rfl ⟨?_, ?_⟩
          · rw [Hr.out]; rfl
          · exact ((hb.setCell (by show w.heap.size ≤ w1.heap.size + 1; omega) _).setCell (Nat.le_refl _) _).setCell (Nat.le_refl _) _
      · have Hr := Lib.hid (rdS_bad s (by unfold deedGoodS; simp [h2]))
        have hl2 : (((split s 32).length : Int) != 2) = true := by simp; omega
        have hl2' : ((split s 32).length != 2) = true := by simpa using h2
        clear hk0 h2
        generalize kTo l0 7 = kk at *
        go_wp2
        refine bodyPost_ret (results_deed Tryd.results26 _ _ w.heap.size _ _ rfl (set2 hr)) rfl ⟨?_, ?_⟩
        · rw [Hr.out]; rfl
        · exact (hb.setCell (Nat.le_refl _) _).setCell (Nat.le_refl _) _

end Go.Proofs.YtgeljcnlegbedaaDoor
