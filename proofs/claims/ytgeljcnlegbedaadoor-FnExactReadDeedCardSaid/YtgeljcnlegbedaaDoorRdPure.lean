/- The plain functions of both sides agree at every list of bytes. No conditions. -/
import Derived.Test.YtgeljcnlegbedaaDoorRd2
namespace Go.Proofs.YtgeljcnlegbedaaDoor
open Go.RowKit

def spL (b : UInt8) : List UInt8 → List (List UInt8)
  | [] => [[]]
  | c :: r => if c = b then [] :: spL b r else match spL b r with | [] => [[c]] | x :: t => (c :: x) :: t
theorem spL_ne (b : UInt8) : ∀ l, spL b l ≠ []
  | [] => by simp [spL]
  | c :: r => by
    unfold spL; split
    · simp
    · split <;> simp
theorem spL_none {b : UInt8} : ∀ {l : List UInt8}, b ∉ l → spL b l = [l]
  | [], _ => rfl
  | c :: r, h => by
    have h1 : ¬ c = b := fun e => h (by simp [e])
    have h2 : b ∉ r := fun e => h (by simp [e])
    rw [spL, if_neg h1, spL_none h2]
theorem spL_cut {b : UInt8} : ∀ {a r : List UInt8}, b ∉ a → spL b (a ++ b :: r) = a :: spL b r
  | [], r, _ => by simp [spL]
  | c :: a, r, h => by
    have h1 : ¬ c = b := fun e => h (by simp [e])
    have h2 : b ∉ a := fun e => h (by simp [e])
    rw [List.cons_append, spL, if_neg h1, spL_cut h2]
theorem spL_snoc_hit {b : UInt8} : ∀ (l : List UInt8), spL b (l ++ [b]) = spL b l ++ [[]]
  | [] => by simp [spL]
  | c :: r => by
    have ih := spL_snoc_hit (b := b) r
    rw [List.cons_append]
    unfold spL
    split
    · rw [ih]; rfl
    · rw [ih]
      cases h : spL b r with
      | nil => exact absurd h (spL_ne b r)
      | cons x t => rfl
theorem spL_snoc_miss {b c : UInt8} (hc : ¬ c = b) : ∀ (l : List UInt8) (f : List (List UInt8)) (x : List UInt8), spL b l = f ++ [x] → spL b (l ++ [c]) = f ++ [x ++ [c]]
  | [], f, x, h => by
    have h' : [[]] = f ++ [x] := h
    have : f = [] := by
      cases f with
      | nil => rfl
      | cons a t => simp at h'
    subst this
    simp at h'; subst h'
    simp [spL, hc]
  | d :: r, f, x, h => by
    rw [List.cons_append]
    unfold spL at h ⊢
    split
    · rename_i e
      rw [if_pos e] at h
      cases f with
      | nil =>
        simp at h
        exact absurd h.2 (spL_ne b r)
      | cons a t =>
        simp only [List.cons_append, List.cons.injEq] at h
        rw [spL_snoc_miss hc r t x h.2, ← h.1]; rfl
    · rename_i e
      rw [if_neg e] at h
      cases hs : spL b r with
      | nil => exact absurd hs (spL_ne b r)
      | cons y t =>
        rw [hs] at h
        simp only at h
        cases f with
        | nil =>
          simp at h
          obtain ⟨h1, h2⟩ := h
          subst h2
          rw [spL_snoc_miss hc r [] y (by rw [hs]; rfl), ← h1]; rfl
        | cons a f' =>
          simp only [List.cons_append, List.cons.injEq] at h
          rw [spL_snoc_miss hc r (y :: f') x (by rw [hs, h.2]; rfl), ← h.1]; rfl
theorem spl_spL (s : ByteArray) (b : UInt8) : ∀ k, k ≤ s.size → (spl s b k).2 ≤ k ∧ (spl s b k).1.map (·.data.toList) ++ [(s.data.toList.take k).drop (spl s b k).2] = spL b (s.data.toList.take k)
  | 0, _ => by simp [spl, spL]
  | k + 1, hk => by
    obtain ⟨hle, ih⟩ := spl_spL s b k (by omega)
    have hlt : k < s.size := by omega
    have hl : (s.data.toList.take k).length = k := by rw [List.length_take, Array.length_toList]; exact Nat.min_eq_left (by show k ≤ s.size; omega)
    rw [take_snoc s k hlt]
    by_cases hc : s[k] = b
    · rw [spl_hit hlt hc, hc, spL_snoc_hit, ← ih]
      refine ⟨Nat.le_refl _, ?_⟩
      have e1 : List.drop (k + 1) (s.data.toList.take k ++ [b]) = [] := by
        apply List.drop_eq_nil_of_le; simp; omega
      have e2 : (s.extract (spl s b k).2 k).data.toList = (s.data.toList.take k).drop (spl s b k).2 := by
        simp [ByteArray.data_extract, List.drop_take]
      simp only [List.map_append, List.map_cons, List.map_nil, e1, e2]
    · rw [spl_miss hlt hc, spL_snoc_miss hc _ _ _ ih.symm]
      refine ⟨by omega, ?_⟩
      rw [List.drop_append_of_le_length (by omega)]
theorem split_spL (s : ByteArray) (b : UInt8) : (split s b).map (·.data.toList) = spL b s.data.toList := by
  obtain ⟨hle, h⟩ := spl_spL s b s.size (Nat.le_refl _)
  have e : s.data.toList.take s.size = s.data.toList := List.take_of_length_le (by rw [Array.length_toList]; exact Nat.le_refl _)
  rw [e] at h
  rw [← h]
  unfold split
  have e2 : (s.extract (spl s b s.size).2 s.size).data.toList = s.data.toList.drop (spl s b s.size).2 := by
    simp [ByteArray.data_extract]
    exact List.take_of_length_le (by rw [List.length_drop, Array.length_toList]; exact Nat.le_refl _)
  simp only [List.map_append, List.map_cons, List.map_nil, e2]

theorem nmem_cons {b c : UInt8} {l : List UInt8} (hc : ¬ c = b) (h : b ∉ l) : b ∉ c :: l := by
  intro e; rcases List.mem_cons.1 e with e | e
  · exact hc e.symm
  · exact h e
theorem nopre {b c : UInt8} {l : List UInt8} (hc : ¬ c = b) : ([b] : List UInt8).isPrefixOf (c :: l) = false := by
  simp only [List.isPrefixOf, Bool.and_eq_false_iff]; left; simp; exact fun e => hc e.symm
theorem head_app {q t : List UInt8} (h : q ≠ []) : (q ++ t).head? = q.head? := by
  cases q with
  | nil => exact absurd rfl h
  | cons a q => rfl
theorem index_cases (b : UInt8) : ∀ l : List UInt8, (b ∉ l ∧ Lib.index l [b] = -1) ∨ ∃ a r, l = a ++ b :: r ∧ b ∉ a ∧ Lib.index l [b] = a.length
  | [] => .inl ⟨by simp, rfl⟩
  | c :: l => by
    by_cases hc : c = b
    · right
      exact ⟨[], l, by simp [hc], by simp, by simp [Lib.index, hc]⟩
    · have hp : ([b] : List UInt8).isPrefixOf (c :: l) = false := nopre hc
      rcases index_cases b l with ⟨h1, h2⟩ | ⟨a, r, rfl, ha, h2⟩
      · left
        refine ⟨nmem_cons hc h1, ?_⟩
        rw [Lib.index, hp, h2]; simp
      · right
        refine ⟨c :: a, r, rfl, nmem_cons hc ha, ?_⟩
        rw [Lib.index, nopre hc, h2]
        have : ((a.length : Int) == -1) = false := by simp
        simp [this]

theorem cut_none {l : List UInt8} (h : (32 : UInt8) ∉ l) : rdRest l = [] := by
  unfold rdRest Lib.cut
  rcases index_cases 32 l with ⟨_, h2⟩ | ⟨a, r, rfl, _, _⟩
  · rw [h2, if_neg (by omega)]
  · simp at h
theorem cut_some {a r : List UInt8} (h : (32 : UInt8) ∉ a) : rdWord (a ++ 32 :: r) = a ∧ rdRest (a ++ 32 :: r) = r := by
  have hi : Lib.index (a ++ 32 :: r) [32] = a.length := by
    induction a with
    | nil => simp [Lib.index]
    | cons c a ih =>
      have hc : ¬ c = 32 := fun e => h (by simp [e])
      have ha : (32 : UInt8) ∉ a := fun e => h (by simp [e])
      have hp : ([32] : List UInt8).isPrefixOf (c :: (a ++ 32 :: r)) = false := nopre hc
      rw [List.cons_append, Lib.index, hp, ih ha]
      have : ((a.length : Int) == -1) = false := by simp
      simp [this]
  unfold rdWord rdRest Lib.cut
  rw [hi, if_pos (by omega)]
  simp

/-! digits -/
theorem dig_ofNat {d : Nat} (h : d < 10) : isDig (UInt8.ofNat (48 + d)) = true ∧ ((UInt8.ofNat (48 + d)).toNat : Int) - 48 = d := by
  have : (UInt8.ofNat (48 + d)).toNat = 48 + d := by rw [UInt8.toNat_ofNat']; omega
  rw [isDig, this]; simp; omega
theorem decDigits_facts (u : Nat) : (Lib.decDigits u).all isDig = true ∧ val (Lib.decDigits u) = u ∧ Lib.decDigits u ≠ [] ∧ (10 ≤ u → (Lib.decDigits u).head? ≠ some 48) ∧ (0 < u → (Lib.decDigits u).head? ≠ some 48) := by
  induction u using Nat.strongRecOn with
  | _ u ih =>
    by_cases h : u < 10
    · rw [Lib.decDigits_one h]
      have := dig_ofNat h
      refine ⟨by rw [List.all_cons, List.all_nil, this.1]; rfl, by rw [show val [UInt8.ofNat (48 + u)] = 0 * 10 + (((UInt8.ofNat (48 + u)).toNat : Int) - 48) from rfl, this.2]; omega, by simp, by omega, ?_⟩
      intro h0 e
      simp at e
      have e2 := congrArg UInt8.toNat e
      rw [UInt8.toNat_ofNat'] at e2
      simp at e2; omega
    · have e : Lib.decDigits u = Lib.decDigits (u / 10) ++ [UInt8.ofNat (48 + u % 10)] := by rw [Lib.decDigits, dif_neg h]
      obtain ⟨h1, h2, h3, h4, h5⟩ := ih (u / 10) (by omega)
      have hd := dig_ofNat (show u % 10 < 10 by omega)
      have hh : (Lib.decDigits u).head? ≠ some 48 := by
        rw [e, head_app h3]; exact h5 (by omega)
      refine ⟨by rw [e, List.all_append, h1, List.all_cons, List.all_nil, hd.1]; rfl, ?_, by rw [e]; simp, fun _ => hh, fun _ => hh⟩
      rw [e, val_snoc, h2, hd.2]; omega
theorem decDigits_len {u : Nat} (h : u < 1000) : (Lib.decDigits u).length ≤ 3 := by
  by_cases h1 : u < 10
  · rw [Lib.decDigits_one h1]; simp
  · rw [Lib.decDigits, dif_neg h1]
    by_cases h2 : u / 10 < 10
    · rw [Lib.decDigits_one h2]; simp
    · rw [Lib.decDigits, dif_neg h2, Lib.decDigits_one (by omega)]; simp
/-- what is written as the program writes it is read by the reference .. -/
theorem numR_of_digits {u : Nat} (h : u < 1000) : numR (Lib.decDigits u) = ((u : Int), true) := by
  obtain ⟨h1, h2, h3, h4, h5⟩ := decDigits_facts u
  have hl := decDigits_len h
  have hp : 0 < (Lib.decDigits u).length := List.length_pos_iff.2 h3
  have hb : numBad (Lib.decDigits u) = false := by
    unfold numBad
    simp only [Bool.or_eq_false_iff, Bool.and_eq_false_iff, decide_eq_false_iff_not]
    refine ⟨⟨by omega, by omega⟩, ?_⟩
    by_cases hu : u < 10
    · right; rw [Lib.decDigits_one hu]; simp
    · left; exact h4 (by omega)
  unfold numR
  rw [hb, h1, h2]; rfl
/-- .. and the other way -/
theorem digits_of_val : ∀ (n : Nat) (r : List UInt8), r.length = n → r ≠ [] → r.all isDig = true → (r.head? = some 48 → r.length = 1) → ∃ u : Nat, val r = u ∧ Lib.decDigits u = r ∧ (1 < r.length → 10 ≤ u) := by
  intro n
  induction n with
  | zero => intro r hl hne; rw [List.length_eq_zero_iff] at hl; exact absurd hl hne
  | succ n ih =>
    intro r hl hne hd hz
    have e := List.dropLast_concat_getLast hne
    generalize r.dropLast = q at e
    generalize r.getLast hne = c at e
    subst e
    rw [List.all_append, Bool.and_eq_true] at hd
    have hc := hd.2
    simp [isDig] at hc
    obtain ⟨d, hd48⟩ : ∃ d : Nat, c.toNat = 48 + d := ⟨c.toNat - 48, by omega⟩
    have hcd : UInt8.ofNat (48 + d) = c := by rw [← hd48]; exact UInt8.ofNat_toNat
    by_cases hq : q = []
    · subst hq
      refine ⟨d, by simp [val, hd48]; omega, ?_, by simp⟩
      rw [Lib.decDigits_one (by omega), hcd]; rfl
    · have hh : (q ++ [c]).head? = q.head? := head_app hq
      have hz' : q.head? ≠ some 48 := by
        intro e
        have h1 := hz (by rw [hh]; exact e)
        have h2 := List.length_pos_iff.2 hq
        rw [List.length_append, List.length_singleton] at h1; omega
      obtain ⟨u, hu, hdu, h10⟩ := ih q (by simpa using hl) hq hd.1 (fun e => absurd e hz')
      have hu0 : 0 < u := by
        rcases Nat.eq_zero_or_pos u with h0 | h0
        · exfalso; subst h0
          rw [Lib.decDigits_one (by omega)] at hdu
          rw [← hdu] at hz'
          exact hz' rfl
        · exact h0
      refine ⟨u * 10 + d, by rw [val_snoc, hu, hd48]; push_cast; omega, ?_, fun _ => by omega⟩
      rw [Lib.decDigits, dif_neg (by omega), show (u * 10 + d) / 10 = u by omega, show (u * 10 + d) % 10 = d by omega, hdu, hcd]
theorem parse_digits (M : Nat) : ∀ (r : List UInt8) (acc : Nat), r.all isDig = true → (acc + 1) * 10 ^ r.length ≤ 1000000000000 → 1000000000000 ≤ M → Lib.parseUintM M acc r = .ok (r.foldl (fun n c => n * 10 + (c.toNat - 48)) acc)
  | [], acc, _, _, _ => rfl
  | c :: r, acc, hd, hb, hM => by
    simp only [List.all_cons, Bool.and_eq_true] at hd
    have hc := hd.1
    simp [isDig] at hc
    have hpow : 10 ^ (c :: r).length = 10 ^ r.length * 10 := by rw [List.length_cons, Nat.pow_succ]
    rw [hpow] at hb
    have h1 : 1 ≤ 10 ^ r.length := Nat.one_le_pow _ _ (by omega)
    have h2 : (acc + 1) * 10 ≤ 1000000000000 := by
      calc (acc + 1) * 10 = (acc + 1) * (1 * 10) := by omega
        _ ≤ (acc + 1) * (10 ^ r.length * 10) := Nat.mul_le_mul_left _ (Nat.mul_le_mul_right _ h1)
        _ ≤ _ := hb
    have h3 : (acc * 10 + (c.toNat - 48) + 1) * 10 ^ r.length ≤ 1000000000000 := by
      calc (acc * 10 + (c.toNat - 48) + 1) * 10 ^ r.length ≤ ((acc + 1) * 10) * 10 ^ r.length := Nat.mul_le_mul_right _ (by omega)
        _ = (acc + 1) * (10 ^ r.length * 10) := by rw [Nat.mul_assoc, Nat.mul_comm 10]
        _ ≤ _ := hb
    rw [Lib.parseUintM, if_pos ⟨hc.1, hc.2⟩, if_neg (by omega), if_neg (by omega), parse_digits M r _ hd.2 h3 hM]; rfl

theorem fold_val (r : List UInt8) : ∀ (acc : Nat), r.all isDig = true → ((r.foldl (fun n c => n * 10 + (c.toNat - 48)) acc : Nat) : Int) = r.foldl (fun n c => n * 10 + ((c.toNat : Int) - 48)) (acc : Int) := by
  induction r with
  | nil => intro acc _; rfl
  | cons c r ih =>
    intro acc hd
    simp only [List.all_cons, Bool.and_eq_true] at hd
    have hc := hd.1
    simp [isDig] at hc
    rw [List.foldl_cons, List.foldl_cons, ih _ hd.2]
    congr 1
    omega
theorem parse_val {r : List UInt8} (hne : r ≠ []) (hd : r.all isDig = true) (hl : r.length ≤ 9) : Lib.parseIntB 64 r = .ok (val r) := by
  have hp := parse_digits (2 ^ 64 - 1) r 0 hd (by
    have : ∀ m, m ≤ 9 → (0 + 1) * 10 ^ m ≤ 1000000000000 := by decide
    exact this _ hl) (by decide)
  have hv := fold_val r 0 hd
  obtain ⟨hv0, hv1⟩ := val_bound r hd
  have hv2 := pow_bound hv1 hl
  have e : ((r.foldl (fun n c => n * 10 + (c.toNat - 48)) 0 : Nat) : Int) = val r := hv
  cases r with
  | nil => exact absurd rfl hne
  | cons c r =>
    have hc := hd
    simp only [List.all_cons, Bool.and_eq_true] at hc
    have hc1 := hc.1
    simp [isDig] at hc1
    unfold Lib.parseIntB
    have n43 : ¬ (c.toNat = 43 ∨ c.toNat = 45) := by omega
    have n45 : ¬ c.toNat = 45 := by omega
    simp only [if_neg n43]
    unfold Lib.parseUintB
    rw [if_neg (by simp), hp]
    generalize List.foldl (fun n c => n * 10 + (c.toNat - 48)) 0 (c :: r) = u at e
    simp only
    rw [if_neg (by omega), if_neg (by omega), if_neg n45, e]
theorem numOk_form {r : List UInt8} (h : numOk r = true) : Lib.itoa (numOf r) = r ∧ r ≠ [] := by
  unfold numOk at h
  unfold numOf
  split at h
  · rename_i v hv
    rw [hv]
    refine ⟨by simpa using h, ?_⟩
    rintro rfl
    cases hv
  · cases h
theorem digs_no32 {r : List UInt8} (h : r.all isDig = true) : (32 : UInt8) ∉ r := by
  intro hm
  have := List.all_eq_true.1 h 32 hm
  exact absurd this (by decide)
theorem numOk_no32 {r : List UInt8} (h : numOk r = true) : (32 : UInt8) ∉ r := by
  obtain ⟨h1, _⟩ := numOk_form h
  rw [← h1]
  unfold Lib.itoa
  split
  · exact nmem_cons (by decide) (digs_no32 (decDigits_facts _).1)
  · exact digs_no32 (decDigits_facts _).1
theorem validDeed_rng {k a : Int} (h : validDeed k a = true) : 1 ≤ k ∧ k ≤ 6 ∧ 0 ≤ a ∧ a ≤ 999 := by
  unfold validDeed inB at h
  simp at h; omega
theorem num_iff (k : Int) (r : List UInt8) : (numOk r && validDeed k (numOf r)) = ((numR r).2 && validDeed k (numR r).1) ∧ ((numOk r && validDeed k (numOf r)) = true → numOf r = (numR r).1) := by
  by_cases h : (numOk r && validDeed k (numOf r)) = true
  · rw [Bool.and_eq_true] at h
    obtain ⟨h1, h2⟩ := numOk_form h.1
    have hv := validDeed_rng h.2
    obtain ⟨u, hu⟩ : ∃ u : Nat, numOf r = u := ⟨(numOf r).toNat, by omega⟩
    rw [hu] at h1 hv
    have e : Lib.itoa (u : Int) = Lib.decDigits u := by unfold Lib.itoa; rw [if_neg (by omega)]; simp
    have hr : numR r = ((u : Int), true) := by rw [← h1, e]; exact numR_of_digits (by omega)
    rw [hr, h.1, hu]
    exact ⟨rfl, fun _ => rfl⟩
  · rw [Bool.not_eq_true] at h
    rw [h]
    refine ⟨?_, fun e => by cases e⟩
    symm
    rw [Bool.eq_false_iff]
    intro h'
    rw [Bool.and_eq_true] at h'
    obtain ⟨h1, h2⟩ := h'
    have hR : numR r = (val r, true) ∧ numBad r = false ∧ r.all isDig = true := by
      unfold numR at h1 ⊢
      split at h1
      · cases h1
      · rename_i hb
        rw [Bool.not_eq_true, Bool.or_eq_false_iff] at hb
        rw [hb.1, hb.2]
        exact ⟨rfl, rfl, by simpa using hb.2⟩
    obtain ⟨hR, hb, hd⟩ := hR
    rw [hR] at h2
    have hv := validDeed_rng h2
    unfold numBad at hb
    simp only [Bool.or_eq_false_iff, Bool.and_eq_false_iff, decide_eq_false_iff_not] at hb
    have hne : r ≠ [] := by rintro rfl; exact absurd hb.1.1 (by decide)
    obtain ⟨u, hu, hdu, _⟩ := digits_of_val r.length r rfl hne hd (fun e => by
      rcases hb.2 with hb | hb
      · exact absurd e hb
      · have := List.length_pos_iff.2 hne; omega)
    have hp := parse_val hne hd (by omega)
    have e : Lib.itoa (u : Int) = Lib.decDigits u := by unfold Lib.itoa; rw [if_neg (by omega)]; simp
    have hok : numOk r = true := by unfold numOk; rw [hp, hu]; show (Lib.itoa (u : Int) == r) = true; rw [e, hdu]; simp
    have hof : numOf r = val r := by unfold numOf; rw [hp]
    rw [hok, hof, h2] at h
    cases h
theorem kind_iff (x : ByteArray) : (1 ≤ Lib.idxOfS dzs x → kTo x 7 = Lib.idxOfS dzs x) ∧ (Lib.idxOfS dzs x < 1 → kTo x 7 = 0) := by
  by_cases h1 : dz 1 = x
  · subst h1; decide +kernel
  by_cases h2 : dz 2 = x
  · subst h2; decide +kernel
  by_cases h3 : dz 3 = x
  · subst h3; decide +kernel
  by_cases h4 : dz 4 = x
  · subst h4; decide +kernel
  by_cases h5 : dz 5 = x
  · subst h5; decide +kernel
  by_cases h6 : dz 6 = x
  · subst h6; decide +kernel
  have hk : kTo x 7 = 0 := by simp [kTo, h1, h2, h3, h4, h5, h6]
  rw [hk]
  refine ⟨fun h => ?_, fun _ => rfl⟩
  exfalso
  by_cases h0 : dz 0 = x
  · subst h0; revert h; decide +kernel
  have : Lib.idxOfS dzs x = -1 := by
    refine Lib.idxFromS_miss x dzs 0 ?_
    intro j hj
    have hj' : j < 7 := hj
    match j, hj' with
    | 0, _ => exact h0
    | 1, _ => exact h1
    | 2, _ => exact h2
    | 3, _ => exact h3
    | 4, _ => exact h4
    | 5, _ => exact h5
    | 6, _ => exact h6
  omega

theorem readDeed_eq (s : ByteArray) : readDeed s.data.toList = readDeedS s := by
  have H := split_spL s 32
  rcases index_cases 32 s.data.toList with ⟨hn, _⟩ | ⟨a, r, hl, ha, _⟩
  · rw [spL_none hn] at H
    have hlen : (split s 32).length = 1 := by simpa using congrArg List.length H
    have h1 : deedGoodS s = false := by unfold deedGoodS; simp [hlen]
    have h2 : deedGood s.data.toList = false := by unfold deedGood; rw [cut_none hn]; rfl
    rw [rdS_bad s h1]; unfold readDeed; rw [h2]; rfl
  · have hc := cut_some (a := a) (r := r) ha
    rw [hl, spL_cut ha] at H
    have hbadS : ∀ h : deedGoodS s = false, deedGood s.data.toList = false → readDeed s.data.toList = readDeedS s := by
      intro h1 h2; rw [rdS_bad s h1]; unfold readDeed; rw [h2]; rfl
    by_cases hr : (32 : UInt8) ∈ r
    · refine hbadS ?_ ?_
      · have : (split s 32).length ≠ 2 := by
          have := congrArg List.length H
          simp only [List.length_map, List.length_cons] at this
          rcases index_cases 32 r with ⟨h, _⟩ | ⟨a', r', rfl, ha', _⟩
          · exact absurd hr h
          · rw [spL_cut ha'] at this
            have := List.length_pos_iff.2 (spL_ne 32 r')
            simp only [List.length_cons] at *; omega
        unfold deedGoodS; simp [this]
      · unfold deedGood
        rw [hl, hc.1, hc.2]
        have : numOk r = false := by
          rw [Bool.eq_false_iff]; intro h; exact numOk_no32 h hr
        rw [this]; rfl
    · rw [spL_none hr] at H
      match hs : split s 32, H with
      | [x0, x1], H =>
        simp only [List.map_cons, List.map_nil, List.cons.injEq, and_true] at H
        obtain ⟨e0, e1⟩ := H
        have hx0 : (⟨a.toArray⟩ : ByteArray) = x0 := WideShapes.bytes_inj (by simpa using e0.symm)
        have hkS : kindS s = kTo x0 7 := by unfold kindS; rw [hs]; rfl
        have hki : kindOf a = Lib.idxOfS dzs x0 := by unfold kindOf; rw [hx0]
        have hgS : deedGoodS s = (!(kTo x0 7 == 0) && ((numR r).2 && validDeed (kTo x0 7) (numR r).1)) := by
          unfold deedGoodS
          rw [hkS, hs]
          show (!(kTo x0 7 == 0) && decide (2 = 2) && (numR x1.data.toList).2 && validDeed (kTo x0 7) (numR x1.data.toList).1) = _
          rw [e1]; simp [Bool.and_assoc]
        have hg : deedGood s.data.toList = (numOk r && validDeed (Lib.idxOfS dzs x0) (numOf r)) := by
          unfold deedGood; rw [hl, hc.1, hc.2, hki]
        obtain ⟨k1, k2⟩ := kind_iff x0
        by_cases hk : 1 ≤ Lib.idxOfS dzs x0
        · have hk1 := k1 hk
          obtain ⟨n1, n2⟩ := num_iff (Lib.idxOfS dzs x0) r
          have hz : (!(kTo x0 7 == 0)) = true := by rw [hk1]; simp; omega
          have hgg : deedGoodS s = deedGood s.data.toList := by rw [hgS, hg, hz, hk1, n1]; rfl
          unfold readDeed readDeedS
          rw [hgg]
          by_cases hgd : deedGood s.data.toList = true
          · rw [if_pos hgd, if_pos hgd, hkS, hk1, hl, hc.1, hc.2, hki, hs]
            rw [hg] at hgd
            rw [n2 hgd]
            show _ = (_, (numR x1.data.toList).1, _)
            rw [e1]
          · rw [if_neg hgd, if_neg hgd]
        · refine hbadS ?_ ?_
          · rw [hgS, k2 (by omega)]; rfl
          · rw [hg]
            have : validDeed (Lib.idxOfS dzs x0) (numOf r) = false := by
              rw [Bool.eq_false_iff]; intro h; have := validDeed_rng h; omega
            rw [this]; simp

end Go.Proofs.YtgeljcnlegbedaaDoor
