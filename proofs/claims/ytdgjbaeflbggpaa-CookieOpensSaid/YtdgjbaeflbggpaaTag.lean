/- mac.Tag, mac.Derive and the reference's.
  SEATS: cookie guard -/
import Derived.Test.YtdgjbaeflbggpaaMac
namespace Go.Proofs.Ytdgjbaeflbggpaa
open Go.RowKit
set_option linter.unusedVariables false

theorem Wds.below {w w' : World} {g : Nat} {bs : List UInt8} (h : Wds w g bs) (hb : Below w.heap.size w w') : Wds w' g bs := by
  obtain ⟨A, m, c, hg, hr⟩ := h
  exact ⟨A, m, c, hg.below' hb, hr.below hb⟩

theorem Wds.lt {w : World} {g : Nat} {bs : List UInt8} (h : Wds w g bs) : g < w.heap.size := by
  obtain ⟨A, m, c, hg, hr⟩ := h
  exact hg.lt

/-- How much is left: the loop's measure. -/
def wdsLeft (w : World) (g : Nat) : Nat := match w.cell? ⟨g, 0, none⟩ with
  | some (.slice _ n _) => n
  | _ => 0
def isTrue : Value → Nat
  | .bool true => 1
  | _ => 0
theorem Wds.left {w : World} {g : Nat} {bs : List UInt8} (h : Wds w g bs) : wdsLeft w g = bs.length := by
  obtain ⟨A, m, c, hg, hr⟩ := h
  unfold wdsLeft
  rw [hg.cell]
  exact hr.len.symm

theorem more_drop (bs : List UInt8) (k : Nat) : (!(bs.drop k).isEmpty) = decide (k < bs.length) := by
  by_cases h : k < bs.length
  · have : bs.drop k ≠ [] := by simpa using h
    cases hd : bs.drop k with
    | nil => exact absurd hd this
    | cons _ _ => simpa using h
  · rw [List.drop_eq_nil_of_le (by omega)]
    simpa using h

set_option maxHeartbeats 1000000 in
theorem tag_any (a b : Int) (A : Option Addr) (m c : Nat) (bs : List UInt8) (w : World) (h : RB w A m c bs) :
    Calls Try.prog 25 #[.agg #[.int .u64 a, .int .u64 b], .slice A m c] w fun e w' => e = .returned (.int .u64 (mac a b bs)) ∧ Below w.heap.size w w' := by
  have Hl := hide h.len
  have hc := h.cap
  have hx := h.max
  go_enter Try.func25, Try.ntmps25
  go_wp2_with fail
  refine (mix_any _ _ _).mono ?_
  rintro e w1 ⟨rfl, hB1⟩
  have hA1 := (Below.refl w.heap.size w).alloc (Nat.le_refl _) (.cells #[.int .u64 a, .int .u64 b] 24)
  have hB1' : Below w.heap.size w w1 := below_step hA1 hB1 hA1.size
  clear hA1 hB1
  go_wp2_with fail
  refine (words_any A m c bs w1 (h.below hB1')).mono ?_
  rintro e w2 ⟨g, rfl, hg2, hW2, hB2⟩
  have hB2' : Below w.heap.size w w2 := below_step hB1' hB2 hB1'.size
  have hgb : w.heap.size ≤ g := Nat.le_trans hB1'.size hg2
  clear hB1' hB2 hg2
  go_wp2_with (first
    | (go_at_call 44; refine (next_any g bs w2 hW2).mono ?_; rintro e w3 ⟨rfl, hW3, hG3⟩))
  have hB3 : Below w.heap.size w w3 := hB2'.grown hG3 hB2'.size (by rintro k ⟨rfl⟩; exact hgb)
  clear hB2' hG3 hW2
  go_loopw [5, 7, 8] (fun hv wv ok wr => ∃ k : Nat, 8 * k ≤ bs.length + 7 ∧ hv = .int .u64 (macAt (mix a b) bs k) ∧ wv = .int .u64 (le (sub bs (8 * k) 8) : Nat) ∧ ok = .bool (decide (8 * k < bs.length)) ∧ Wds wr g (bs.drop (8 * k + 8)) ∧ Below w.heap.size w wr) (fun hv wv ok wr => 2 * wdsLeft wr g + isTrue ok)
  case atStart =>
    refine ⟨0, by omega, rfl, rfl, ?_, hW3, hB3⟩
    cases bs <;> simp
  case round =>
    obtain ⟨k, hk, rfl, rfl, rfl, hWk, hBk⟩ := hrel
    by_cases hlt : 8 * k < bs.length
    · have Hd := hide (show decide (8 * k < bs.length) = true by simpa using hlt)
      have Hlt := hide hlt
      have HL := hide hWk.left
      rw [Hd.out]
      clear hlt
      go_wp2_with fail
      refine (mix_any _ _ _).mono ?_
      rintro e w4 ⟨rfl, hB4⟩
      have hBk4 := below_step hBk hB4 hBk.size
      have hW4 := hWk.below hB4
      clear hB4 hWk hBk
      go_wp2_with (first
        | (go_at_call 44; refine (next_any g _ w4 hW4).mono ?_; rintro e w5 ⟨rfl, hW5, hG5⟩))
      have hB5 := hBk4.grown hG5 hBk4.size (by rintro k ⟨rfl⟩; exact hgb)
      have hL := HL.out
      have hlt := Hlt.out
      rw [more_drop]
      refine ⟨⟨k + 1, by omega, rfl, rfl, rfl, ?_, hB5⟩, ?_⟩
      · rw [List.drop_drop] at hW5
        exact hW5
      · rw [hL, hW5.left, List.length_drop, List.length_drop]
        have h1 : isTrue (.bool true) = 1 := rfl
        rw [h1]
        by_cases h8 : 8 * k + 8 < bs.length
        · have h2 : isTrue (.bool (decide (8 * k + 8 < bs.length))) = 1 := by rw [decide_eq_true h8]; rfl
          omega
        · have h2 : isTrue (.bool (decide (8 * k + 8 < bs.length))) = 0 := by rw [decide_eq_false h8]; rfl
          omega
    · have Hd := hide (show decide (8 * k < bs.length) = false by simpa using hlt)
      have Hk := hide (show (bs.length + 7) / 8 = k by omega)
      rw [Hd.out]
      clear hlt
      go_wp2_with fail
      refine (mix_any _ _ _).mono ?_
      rintro e w4 ⟨rfl, hB4⟩
      go_wp2
      go_ret
      refine ⟨?_, below_step hBk hB4 hBk.size⟩
      rw [mac, Hk.out, Hl.out]
      rfl

theorem add_shl (n x k : Nat) (hn : n < 256 ^ k) (hk : k < 8) (hx : x < 256) : IntKind.u64.wrap ((n : Int) + IntKind.u64.wrap ((x : Int) * 2 ^ (8 * k))) = ((n + x * 256 ^ k : Nat) : Int) := by
  have hb : n + x * 256 ^ k < 18446744073709551616 := by
    have h1 : x * 256 ^ k ≤ 255 * 256 ^ k := Nat.mul_le_mul_right _ (by omega)
    have h2 : 256 ^ k * 256 = 256 ^ (k + 1) := (Nat.pow_succ ..).symm
    have h3 : 256 ^ (k + 1) ≤ 256 ^ 8 := Nat.pow_le_pow_right (by omega) (by omega)
    omega
  have he : ((x : Int) * 2 ^ (8 * k)) = ((x * 256 ^ k : Nat) : Int) := by
    rw [Int.natCast_mul, Int.natCast_pow, Int.pow_mul]
    rfl
  rw [he, IntKind.wrap_u64, IntKind.wrap_u64]
  omega

set_option maxHeartbeats 1000000 in
theorem refTag_any (a b : Int) (A : Option Addr) (m c : Nat) (bs : List UInt8) (w : World) (h : RB w A m c bs) (hm : m ≤ 70368744177664) :
    Calls Try.prog 41 #[.agg #[.int .u64 a, .int .u64 b], .slice A m c] w fun e w' => e = .returned (.int .u64 (mac a b bs)) ∧ Below w.heap.size w w' := by
  have Hl := hide h.len
  have hc := h.cap
  have hx := h.max
  have hr := h.alloc (.cells #[.int .u64 a, .int .u64 b] 24)
  have hA1 := (Below.refl w.heap.size w).alloc (Nat.le_refl _) (.cells #[.int .u64 a, .int .u64 b] 24)
  go_enter Try.func41, Try.ntmps41
  go_wp2_with fail
  refine (refMix_any _ _ _).mono ?_
  rintro e w1 ⟨rfl, rfl⟩
  go_wp2
  go_loop [6, 5] (fun iv hv => ∃ k : Nat, 8 * k ≤ m + 7 ∧ iv = .int .i64 (8 * k : Nat) ∧ hv = .int .u64 (macAt (mix a b) bs k)) (fun iv hv => m + 8 - (intOf iv).toNat)
  case atStart => exact ⟨0, by omega, rfl, rfl⟩
  case round =>
    obtain ⟨k, hk, rfl, rfl⟩ := hrel
    by_cases hlt : 8 * k < m
    · have Hlt := hide hlt
      go_wp2
      go_loop [8, 7] (fun qv wv => ∃ q : Nat, q ≤ min 8 (m - 8 * k) ∧ qv = .int .i64 q ∧ wv = .int .u64 (le (sub bs (8 * k) q) : Nat)) (fun qv wv => 8 - (intOf qv).toNat)
      case atStart => exact ⟨0, by omega, rfl, rfl⟩
      case round =>
        obtain ⟨q, hq, rfl, rfl⟩ := hrel
        by_cases hin : q < min 8 (m - 8 * k)
        · have hl := Hl.out
          obtain ⟨b0, o0, hA, hcell⟩ := hr.at_ (8 * k + q) (by omega)
          have hb8 := (nth bs (8 * k + q)).toNat_lt
          have Ht := hide (sub_succ bs (8 * k) q (by omega))
          have hlen := sub_length bs (8 * k) q (by omega)
          have hlt' := le_lt (sub bs (8 * k) q)
          rw [hlen] at hlt'
          have Hs := hide (le_snoc (sub bs (8 * k) q) (nth bs (8 * k + q)))
          have hrange := le_range (sub bs (8 * k) q) (by omega)
          have h1 : (q : Int) < 8 := by omega
          have h2 : 8 * (k : Int) + q < m := by omega
          generalize le (sub bs (8 * k) q) = n at *
          generalize nth bs (8 * k + q) = x at *
          subst hA
          clear hl
          go_wp2
          refine ⟨⟨q + 1, by omega, by go_num, ?_⟩, by simp [intOf]; omega⟩
          rw [Ht.out, Hs.out, hlen]
          exact congrArg (Value.int .u64) (add_shl n x.toNat q hlt' (by omega) hb8)
        · have Hq := hide (show sub bs (8 * k) q = sub bs (8 * k) 8 by
            have := Hl.out
            have hq' : q = min 8 (m - 8 * k) := by omega
            unfold sub
            rw [List.take_eq_take_iff, List.length_drop]
            omega)
          by_cases h8 : q = 8
          · subst h8
            go_wp2_with (go_at_call 40; refine (refMix_any _ _ _).mono ?_; rintro e w4 ⟨rfl, rfl⟩)
            refine ⟨⟨k + 1, by omega, by go_num, rfl⟩, by simp [intOf]; omega⟩
          · have h1 : (q : Int) < 8 := by omega
            have h2 : ¬ 8 * (k : Int) + q < m := by omega
            go_wp2_with (go_at_call 40; refine (refMix_any _ _ _).mono ?_; rintro e w4 ⟨rfl, rfl⟩)
            refine ⟨⟨k + 1, by omega, by go_num, ?_⟩, by simp [intOf]; omega⟩
            rw [Hq.out]
            rfl
    · have Hk := hide (show (bs.length + 7) / 8 = k by rw [Hl.out]; omega)
      go_wp2_with (go_at_call 40; refine (refMix_any _ _ _).mono ?_; rintro e w4 ⟨rfl, rfl⟩)
      go_ret
      refine ⟨?_, hA1⟩
      rw [mac, Hk.out, Hl.out]
      rfl
end Go.Proofs.Ytdgjbaeflbggpaa
