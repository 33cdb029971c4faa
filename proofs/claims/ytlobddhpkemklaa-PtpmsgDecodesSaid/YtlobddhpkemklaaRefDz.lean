/- The reference's Decode: the same message and error.
  SEATS: ptp -/
import Derived.Test.YtlobddhpkemklaaRefD
namespace Go.Proofs.Ytlobddhpkemklaa
open Go.RowKit
set_option linter.unusedVariables false

theorem zerosB_nums (bs : List UInt8) (p : Nat) : ∀ k, p + k ≤ bs.length → (zerosB bs p k = true ↔ ∀ i, i < k → num bs (p + i) 1 = 0)
  | 0, _ => ⟨fun _ i hi => absurd hi (Nat.not_lt_zero i), fun _ => rfl⟩
  | k + 1, hk => by
    rw [zerosB_succ bs p k (by omega), Bool.and_eq_true, zerosB_nums bs p k (by omega)]
    have e : (nth bs (p + k) == 0) = true ↔ num bs (p + k) 1 = 0 := by
      rw [num_one bs (p + k) (by omega), beq_iff_eq]
      exact ⟨fun e => by rw [e]; rfl, fun e => UInt8.toNat_inj.1 e⟩
    rw [e]
    constructor
    · rintro ⟨h1, h2⟩ i hi
      by_cases q : i = k
      · exact q ▸ h2
      · exact h1 i (by omega)
    · exact fun h => ⟨fun i hi => h i (by omega), h k (by omega)⟩
theorem num_zeros (bs : List UInt8) (p : Nat) : ∀ k, p + k ≤ bs.length → (num bs p k = 0 ↔ ∀ i, i < k → num bs (p + i) 1 = 0)
  | 0, _ => ⟨fun _ i hi => absurd hi (Nat.not_lt_zero i), fun _ => rfl⟩
  | k + 1, hk => by
    have e : num bs p (k + 1) = num bs p k * 256 + num bs (p + k) 1 := by
      rw [num_one bs (p + k) (by omega)]
      unfold num
      rw [sub_succ bs p k (by omega), ofBe_snoc]
    have ih := num_zeros bs p k (by omega)
    rw [e]
    constructor
    · intro h i hi
      by_cases q : i = k
      · rw [q]
        omega
      · exact ih.1 (by omega) i (by omega)
    · intro h
      have h1 := ih.2 (fun i hi => h i (by omega))
      have h2 := h k (by omega)
      omega
theorem head_zero {bs : List UInt8} (h1 : num bs 5 1 = 0) (h2 : num bs 16 4 = 0) (h3 : (num bs 32 1 : Int) = controlOf (kindOf bs)) : zeroHead bs = 0 := by
  unfold zeroHead
  rw [h1, h2, h3, xor_ctl]
  show bits .or .i64 (bits .or .i64 0 0) 0 = 0
  rw [or00, or00]

/-- The bytes that do not depend on the message are right just if what is gathered is 0. -/
theorem fixed_zero (bs : List UInt8) (hl : 44 ≤ bs.length) (hz : sizeOfKind (kindOf bs) = (bs.length : Int)) : fixedB bs (kindOf bs) = true ↔ zeroOr bs = 0 := by
  have n5 := num_one bs 5 (by omega)
  have n32 := num_one bs 32 (by omega)
  have hb := bits_range .or (bits .or .i64 (num bs 5 1 : Nat) (num bs 16 4 : Nat)) (bits .xor .i64 (num bs 32 1 : Nat) (controlOf (kindOf bs)))
  have hb' : -9223372036854775808 ≤ zeroHead bs ∧ zeroHead bs ≤ 9223372036854775807 := hb
  have hhead : ((((nth bs 5).toNat : Int) == 0) = true ∧ zerosB bs 16 4 = true ∧ ((((nth bs 32).toNat : Int) == controlOf (kindOf bs)) = true)) ↔ zeroHead bs = 0 := by
    rw [beq_iff_eq, beq_iff_eq, zerosB_nums bs 16 4 (by omega), ← num_zeros bs 16 4 (by omega), ← n5, ← n32]
    constructor
    · rintro ⟨h1, h2, h3⟩
      exact head_zero (by omega) h2 h3
    · intro h
      obtain ⟨h1, h2, h3⟩ := zero_head hl h
      exact ⟨by omega, h2, h3⟩
  unfold fixedB
  rw [Bool.and_eq_true, Bool.and_eq_true, Bool.and_eq_true, ← and_assoc, ← and_assoc, and_assoc (b := zerosB bs 16 4 = true), hhead]
  have hk := kinds (k := kindOf bs) (by omega)
  unfold zeroOr
  by_cases hq : isReq (kindOf bs) = true
  · rw [if_pos hq]
    have h2 : kindOf bs ≠ 2 := by
      intro e
      rw [e] at hq
      exact absurd hq (by decide)
    have h11 : kindOf bs ≠ 11 := by
      intro e
      rw [e] at hq
      exact absurd hq (by decide)
    rw [if_neg h2, if_neg h11]
    exact ⟨fun h => h.1, fun h => ⟨h, rfl⟩⟩
  · rw [if_neg hq]
    by_cases h11 : kindOf bs = 11
    · have e64 : bs.length = 64 := by
        rw [h11] at hz
        have e : sizeOfKind 11 = 64 := rfl
        omega
      rw [if_pos h11, if_neg (by omega), if_pos h11, beq_iff_eq, ← num_one bs 46 (by omega)]
      have hn := num_lt bs 46 1 (by omega)
      constructor
      · rintro ⟨h1, h2⟩
        rw [h1, h2]
        exact or00
      · intro h
        obtain ⟨h1, h2⟩ := or_zero _ _ h
        omega
    · simp only [if_neg h11]
      by_cases h2 : kindOf bs = 2
      · have e54 : bs.length = 54 := by
          rw [h2] at hz
          have e : sizeOfKind 2 = 54 := rfl
          omega
        rw [if_pos h2, e54, zerosB_nums bs 44 10 (by omega)]
        constructor
        · rintro ⟨h1, h3⟩
          rw [h1]
          exact zl_zero bs 44 10 h3
        · exact fun h => zl_none bs _ hb' 44 10 (by omega) h
      · have e44 : bs.length = 44 := by
          rcases hk with ⟨e, _⟩ | ⟨_, _, e⟩ | ⟨_, _, e⟩ | ⟨_, e, _⟩
          · exact absurd e hq
          · exact absurd e h2
          · exact absurd e h11
          · omega
        rw [if_neg h2, e44]
        exact ⟨fun h => h.1, fun h => ⟨h, rfl⟩⟩

theorem refDecode_any (A : Option Addr) (m c : Nat) (bs : List UInt8) (w : World) (h : RB w A m c bs) (hm2 : m ≤ 70000000000000) : Calls Try.prog 18 #[.slice A m c] w fun e w' => e = .returned (.tuple #[(ptpGot bs).val, .int .i64 (ptpErr bs)]) ∧ Below w.heap.size w w' := by
  have hl := h.len
  show Calls Try.prog 18 #[.slice A m c] w (DecEnd w (ptpGot bs) (ptpErr bs))
  have bad : ∀ err : Int, err ≠ 0 → ptpErr bs = err → Calls Try.prog 18 #[.slice A m c] w (DecEnd w Ptp.zero err) → Calls Try.prog 18 #[.slice A m c] w (DecEnd w (ptpGot bs) (ptpErr bs)) := by
    intro err h0 he hc
    unfold ptpGot
    rw [he, if_neg h0]
    exact hc
  by_cases c0 : m < 34
  · exact bad 5 (by omega) (by unfold ptpErr; rw [if_pos (by omega)]) (rdec_short A m c bs w h c0)
  obtain ⟨b, o, rfl, _⟩ := h.cells (by omega)
  by_cases c1 : sizeOfKind (kindOf bs) = 0
  · exact bad 8 (by omega) (by unfold ptpErr; rw [if_neg (by omega), if_pos (.inl c1)]) (rdec_kind0 b o m c bs w h (by omega) hm2 0 c1 rfl)
  have c1' : (sizeOfKind (kindOf bs) == 0) = false := by simpa using c1
  by_cases c2 : num bs 1 1 = 2
  · have c12 : ¬ (sizeOfKind (kindOf bs) = 0 ∨ num bs 1 1 ≠ 2) := by rintro (e | e) <;> contradiction
    by_cases c3 : (m : Int) < sizeOfKind (kindOf bs)
    · exact bad 5 (by omega) (by unfold ptpErr; rw [if_neg (by omega), if_neg c12, if_pos (by rw [hl]; exact c3)]) (rdec_short2 b o m c bs w h (by omega) hm2 _ rfl c1' c2 c3)
    by_cases c4 : (num bs 2 2 : Int) = sizeOfKind (kindOf bs)
    · by_cases c5 : sizeOfKind (kindOf bs) < (m : Int)
      · exact bad 6 (by omega) (by unfold ptpErr; rw [if_neg (by omega), if_neg c12, if_neg (by rw [hl]; exact c3), if_neg (by simpa using c4), if_pos (by rw [hl]; exact c5)]) (rdec_long b o m c bs w h (by omega) hm2 _ rfl c1' c2 c3 c4 c5)
      have c6 : sizeOfKind (kindOf bs) = (m : Int) := by omega
      have hm44 : 44 ≤ bs.length := by
        rcases size_cases (kindOf bs) with e | e | e | e <;> omega
      have hE : ptpErr bs = if zeroOr bs ≠ 0 then 7 else ptpCheck (ptpOf bs) := by
        unfold ptpErr
        rw [if_neg (by omega), if_neg c12, if_neg (by rw [hl]; exact c3), if_neg (by simpa using c4), if_neg (by rw [hl]; exact c5)]
      have hfz := fixed_zero bs hm44 (by rw [hl]; exact c6)
      cases hfx : fixedB bs (kindOf bs)
      · have hz : zeroOr bs ≠ 0 := fun e => by
          rw [hfz.2 e] at hfx
          cases hfx
        exact bad 7 (by omega) (by rw [hE, if_pos hz]) (rdec_zero b o m c bs w h (by omega) hm2 _ rfl c1' c2 c6 c4 hfx)
      · have hz : zeroOr bs = 0 := hfz.1 hfx
        have hE2 : ptpErr bs = ptpCheck (ptpOf bs) := by rw [hE, if_neg (by simpa using hz)]
        refine (rdec_ok b o m c bs w h (by omega) hm2 _ rfl c1' c2 c6 c4 hfx).mono ?_
        rintro e w' ⟨rfl, hB⟩
        refine ⟨?_, hB⟩
        unfold ptpGot
        rw [hE2]
        split <;> rfl
    · exact bad 7 (by omega) (by unfold ptpErr; rw [if_neg (by omega), if_neg c12, if_neg (by rw [hl]; exact c3), if_pos c4]) (rdec_form b o m c bs w h (by omega) hm2 _ rfl c1' c2 c3 (by simpa using c4))
  · exact bad 8 (by omega) (by unfold ptpErr; rw [if_neg (by omega), if_pos (.inr c2)]) (rdec_kind1 b o m c bs w h (by omega) hm2 _ rfl c1' c2)
end Go.Proofs.Ytlobddhpkemklaa
