/- CookieBack.
  SEATS: cookie -/
import Derived.Test.YtdgjbaeflbggpaaAwake44
import Derived.Test.YtdgjbaeflbggpaaKeyEq
import Derived.BigQuiet
import Derived.Deep.DeepCutAuto
namespace Go.Proofs.Ytdgjbaeflbggpaa
open Go.RowKit
set_option linter.unusedVariables false

set_option maxHeartbeats 2000000 in
theorem cookieBack_any (s keep turns a b c d nonce : Int) (w : World) (hs : 0 ≤ s ∧ s ≤ 18446744073709551615) (hkb : -9223372036854775808 ≤ keep ∧ keep ≤ 9223372036854775807) (htb : 0 ≤ turns ∧ turns ≤ 255) (ha : 0 ≤ a ∧ a ≤ 18446744073709551615) (hb : 0 ≤ b ∧ b ≤ 18446744073709551615) (hc : 0 ≤ c ∧ c ≤ 18446744073709551615) (hd : 0 ≤ d ∧ d ≤ 18446744073709551615) (hno : 0 ≤ nonce ∧ nonce ≤ 18446744073709551615) :
    Calls Try.prog 5 #[.int .u64 s, .int .i64 keep, .int .u8 turns, .agg #[.int .u64 a, .int .u64 b], .agg #[.int .u64 c, .int .u64 d], .int .u64 nonce] w fun e w' => e = .returned (.bool true) ∧ Below w.heap.size w w' := by
  have hT := two_keys w (.int .u64 a) (.int .u64 b) (.int .u64 c) (.int .u64 d)
  by_cases hkp : 1 ≤ keep ∧ keep ≤ 8
  · obtain ⟨hkl, hkh⟩ := hkp
    obtain ⟨T0, rfl⟩ := Int.eq_ofNat_of_zero_le htb.1
    obtain ⟨T, hT0⟩ : ∃ T : Nat, (T0 : Int) % 20 = (T : Int) := ⟨T0 % 20, by omega⟩
    have hT1 : T < 20 := by omega
    have HT := hide hT1
    have HT0 := hide hT0
    clear hT1 hT0
    obtain ⟨K, rfl⟩ := Int.eq_ofNat_of_zero_le (show 0 ≤ keep by omega)
    have HK := hide (show 1 ≤ K ∧ K ≤ 8 by omega)
    go_enter Try.func5, Try.ntmps5
    go_wp2_with fail
    refine (new_ok s K _ hkl hkh).mono ?_
    rintro e w1 ⟨rfl, hJ1, hB1, hz1⟩
    rw [size_two, Int.toNat_natCast] at hJ1
    rw [size_two] at hz1 ⊢
    have hW1 := below_step hT.2.2 hB1 hT.2.2.size
    have hka := hT.1.below' hB1
    have hkb := hT.2.1.below' hB1
    clear hT hB1
    go_wp2_with fail
    refine (new_ok s K w1 hkl hkh).mono ?_
    rintro e w2 ⟨rfl, hO2, hB2, hz2⟩
    rw [Int.toNat_natCast, hz1] at hO2
    rw [hz1] at hz2 ⊢
    have hJ2 : JarAt w2 (w.heap.size + 1 + 1) s 1 K := Blk.below' hJ1 hB2
    have hW2 := below_step hW1 hB2 hW1.size
    have hka := hka.below' hB2
    have hkb := hkb.below' hB2
    clear hJ1 hW1 hB2 hz1 hz2
    go_wp2
    rw [HT0.out]
    go_loopw [42] (fun iv wr => ∃ k : Nat, k ≤ T ∧ iv = .int .u8 k ∧ JarAt wr (w.heap.size + 1 + 1) s (1 + k) K ∧ JarAt wr (w.heap.size + 1 + 1 + 1) s (1 + k) K ∧ Blk wr w.heap.size 24 [.int .u64 a, .int .u64 b] ∧ Blk wr (w.heap.size + 1) 24 [.int .u64 c, .int .u64 d] ∧ Below w.heap.size w wr) (fun iv _ => T - (intOf iv).toNat)
    case atStart => exact ⟨0, by omega, rfl, hJ2, hO2, hka, hkb, hW2⟩
    case round =>
      clear hJ2 hO2 hka hkb hW2
      obtain ⟨k, hk, rfl, hJ, hO, hka, hkb, hW⟩ := hrel
      have hT20 := HT.out
      by_cases hlt : k < T
      · have hkI : (k : Int) < (T : Int) := by omega
        go_wp2_with fail
        refine (rotate_ok (w.heap.size + 1 + 1) s (1 + k) K wr hJ (by omega)).mono ?_
        rintro e w3 ⟨rfl, hJ3, hG3⟩
        have hO3 : JarAt w3 (w.heap.size + 1 + 1 + 1) s (1 + k) K := Blk.grown hO hG3 (by simp)
        have hka3 := hka.grown hG3 (by simp; omega)
        have hkb3 := hkb.grown hG3 (by simp)
        have hW3 := hW.grown hG3 hW.size (by rintro k ⟨rfl⟩; omega)
        clear hJ hO hka hkb hW hG3
        go_wp2_with fail
        refine (rotate_ok (w.heap.size + 1 + 1 + 1) s (1 + k) K w3 hO3 (by omega)).mono ?_
        rintro e w4 ⟨rfl, hO4, hG4⟩
        have hJ4 : JarAt w4 (w.heap.size + 1 + 1) s (1 + k + 1) K := Blk.grown hJ3 hG4 (by simp)
        have hka4 := hka3.grown hG4 (by simp; omega)
        have hkb4 := hkb3.grown hG4 (by simp)
        have hW4 := hW3.grown hG4 hW3.size (by rintro k ⟨rfl⟩; omega)
        go_wp2
        exact ⟨⟨k + 1, by omega, by go_num, hJ4, hO4, hka4, hkb4, hW4⟩, by simp [intOf]; omega⟩
      · obtain rfl : k = T := by omega
        have HTk := hide hT20
        clear hT20 hlt hk
        have k0 := hka.cell 0
        have k1 := hka.cell 1
        have k2 := hkb.cell 0
        have k3 := hkb.cell 1
        simp only [List.getElem?_cons_zero, List.getElem?_cons_succ] at k0 k1 k2 k3
        go_wp2_with fail
        refine (seal_any (w.heap.size + 1 + 1) s (1 + k) K a b c d nonce wr hJ (by have := HTk.out; omega) hno).mono ?_
        rintro e w3 ⟨A, n, c', rfl, hr, hB3⟩
        obtain rfl : n = 52 := by rw [← hr.len, cookie_len]
        have hJ3 : JarAt w3 (w.heap.size + 1 + 1) s (1 + k) K := Blk.below' hJ hB3
        have hO3 : JarAt w3 (w.heap.size + 1 + 1 + 1) s (1 + k) K := Blk.below' hO hB3
        have hka3 := hka.below' hB3
        have hkb3 := hkb.below' hB3
        have hW3 := below_step hW hB3 hW.size
        clear hJ hO hka hkb hW hB3 k0 k1 k2 k3
        have k0 := hka3.cell 0
        have k1 := hka3.cell 1
        have k2 := hkb3.cell 0
        have k3 := hkb3.cell 1
        simp only [List.getElem?_cons_zero, List.getElem?_cons_succ] at k0 k1 k2 k3
        go_wp2_with fail
        refine (seal_any (w.heap.size + 1 + 1 + 1) s (1 + k) K a b c d nonce w3 hO3 (by have := HTk.out; omega) hno).mono ?_
        rintro e w4 ⟨A4, n4, c4, rfl, hr4, hB4⟩
        have hJ4 : JarAt w4 (w.heap.size + 1 + 1) s (1 + k) K := Blk.below' hJ3 hB4
        have hO4 : JarAt w4 (w.heap.size + 1 + 1 + 1) s (1 + k) K := Blk.below' hO3 hB4
        have hka4 := hka3.below' hB4
        have hkb4 := hkb3.below' hB4
        have hW4 := below_step hW3 hB4 hW3.size
        have hrA := hr.below hB4
        clear hJ3 hO3 hka3 hkb3 hW3 hB4 k0 k1 k2 k3 hr
        go_wp2_with fail
        refine (equal_any A 52 c' _ A4 n4 c4 _ w4 hrA hr4).mono ?_
        rintro e w5 ⟨rfl, rfl⟩
        rw [beq_self_eq_true]
        clear hr4
        go_wp2
        go_loopw [66] (fun iv wr => ∃ i : Nat, i ≤ 12 ∧ iv = .int .i64 i ∧ JarAt wr (w.heap.size + 1 + 1) s (1 + k) K ∧ JarAt wr (w.heap.size + 1 + 1 + 1) s (1 + k + i) K ∧ RB wr A 52 c' (cookieOf s (1 + k) nonce (four a b c d)) ∧ Blk wr w.heap.size 24 [.int .u64 a, .int .u64 b] ∧ Blk wr (w.heap.size + 1) 24 [.int .u64 c, .int .u64 d] ∧ Below w.heap.size w wr) (fun iv _ => 12 - (intOf iv).toNat)
        case atStart => exact ⟨0, by omega, rfl, hJ4, hO4, hrA, hka4, hkb4, hW4⟩
        case round =>
          clear hJ4 hO4 hrA hka4 hkb4 hW4
          obtain ⟨i, hi, rfl, hJ, hO, hr, hka, hkb, hW⟩ := hrel
          by_cases hlt : i < 12
          · have hiI : (i : Int) < 12 := by omega
            go_wp2_with fail
            refine (open_52 (w.heap.size + 1 + 1 + 1) s (1 + k + i) K A c' _ wr hO hr (by have := HTk.out; omega) (by have := HK.out; omega)).mono ?_
            rintro e w6 ⟨rfl, hB6⟩
            by_cases hq : i < K
            · have hqI : (i : Int) < (K : Int) := by omega
              have z0 := key_neq_same a b
              have z1 := key_neq_same c d
              rw [open_sealed s (1 + k) nonce a b c d (1 + k + i) K ⟨by omega, by omega, by omega⟩ (by have := HTk.out; omega) hno ha hb hc hd]
              have hX := two_keys w6 (.int .u64 a) (.int .u64 b) (.int .u64 c) (.int .u64 d)
              have x0 := hX.1.cell 0
              have x1 := hX.1.cell 1
              have x2 := hX.2.1.cell 0
              have x3 := hX.2.1.cell 1
              have hka7 := (hka.below' hB6).below' hX.2.2
              have hkb7 := (hkb.below' hB6).below' hX.2.2
              have hJ7 : JarAt _ (w.heap.size + 1 + 1) s (1 + k) K := Blk.below' (Blk.below' hJ hB6) hX.2.2
              have hO7 : JarAt _ (w.heap.size + 1 + 1 + 1) s (1 + k + i) K := Blk.below' (Blk.below' hO hB6) hX.2.2
              have hr7 := (hr.below hB6).below hX.2.2
              have hW6 := below_step hW hB6 hW.size
              have hW7 := below_step hW6 hX.2.2 hW6.size
              have k0 := hka7.cell 0
              have k1 := hka7.cell 1
              have k2 := hkb7.cell 0
              have k3 := hkb7.cell 1
              simp only [List.getElem?_cons_zero, List.getElem?_cons_succ] at k0 k1 k2 k3 x0 x1 x2 x3
              clear hka hkb hJ hO hr hW hB6 hW6 hX
              go_wp2_with fail
              refine (rotate_ok (w.heap.size + 1 + 1 + 1) s (1 + k + i) K _ hO7 (by have := HTk.out; omega)).mono ?_
              rintro e w8 ⟨rfl, hO8, hG8⟩
              have hJ8 : JarAt w8 (w.heap.size + 1 + 1) s (1 + k) K := Blk.grown hJ7 hG8 (by simp)
              have hka8 := hka7.grown hG8 (by simp; omega)
              have hkb8 := hkb7.grown hG8 (by simp)
              have hr8 := hr7.turned hO7 hG8
              have hW8 := hW7.grown hG8 hW7.size (by rintro k ⟨rfl⟩; omega)
              clear hO7 hJ7 hka7 hkb7 hr7 hW7 hG8 k0 k1 k2 k3 x0 x1 x2 x3
              go_wp2
              exact ⟨⟨i + 1, by omega, by go_num, hJ8, hO8, hr8, hka8, hkb8, hW8⟩, by simp [intOf]; omega⟩
            · have hqI : (K : Int) ≤ (i : Int) := by omega
              rw [open_stale s (1 + k) nonce a b c d (1 + k + i) K (.inr (.inr (by omega))) (by have := HTk.out; omega)]
              unfold zero2
              have hX := two_keys w6 (.int .u64 0) (.int .u64 0) (.int .u64 0) (.int .u64 0)
              have x0 := hX.1.cell 0
              have x1 := hX.1.cell 1
              have x2 := hX.2.1.cell 0
              have x3 := hX.2.1.cell 1
              have hka7 := (hka.below' hB6).below' hX.2.2
              have hkb7 := (hkb.below' hB6).below' hX.2.2
              have hJ7 : JarAt _ (w.heap.size + 1 + 1) s (1 + k) K := Blk.below' (Blk.below' hJ hB6) hX.2.2
              have hO7 : JarAt _ (w.heap.size + 1 + 1 + 1) s (1 + k + i) K := Blk.below' (Blk.below' hO hB6) hX.2.2
              have hr7 := (hr.below hB6).below hX.2.2
              have hW6 := below_step hW hB6 hW.size
              have hW7 := below_step hW6 hX.2.2 hW6.size
              have k0 := hka7.cell 0
              have k1 := hka7.cell 1
              have k2 := hkb7.cell 0
              have k3 := hkb7.cell 1
              simp only [List.getElem?_cons_zero, List.getElem?_cons_succ] at k0 k1 k2 k3 x0 x1 x2 x3
              clear hka hkb hJ hO hr hW hB6 hW6 hX
              go_wp2_with fail
              refine (rotate_ok (w.heap.size + 1 + 1 + 1) s (1 + k + i) K _ hO7 (by have := HTk.out; omega)).mono ?_
              rintro e w8 ⟨rfl, hO8, hG8⟩
              have hJ8 : JarAt w8 (w.heap.size + 1 + 1) s (1 + k) K := Blk.grown hJ7 hG8 (by simp)
              have hka8 := hka7.grown hG8 (by simp; omega)
              have hkb8 := hkb7.grown hG8 (by simp)
              have hr8 := hr7.turned hO7 hG8
              have hW8 := hW7.grown hG8 hW7.size (by rintro k ⟨rfl⟩; omega)
              clear hO7 hJ7 hka7 hkb7 hr7 hW7 hG8 k0 k1 k2 k3 x0 x1 x2 x3
              go_wp2
              exact ⟨⟨i + 1, by omega, by go_num, hJ8, hO8, hr8, hka8, hkb8, hW8⟩, by simp [intOf]; omega⟩
          · obtain rfl : i = 12 := by omega
            go_wp2_with fail
            refine (open_52 (w.heap.size + 1 + 1) s (1 + k) K A c' _ wr hJ hr (by have := HTk.out; omega) (by have := HK.out; omega)).mono ?_
            rintro e w6 ⟨rfl, hB6⟩
            rw [open_sealed s (1 + k) nonce a b c d (1 + k) K ⟨by omega, by omega, by have := HK.out; omega⟩ (by have := HTk.out; omega) hno ha hb hc hd]
            have hX := (two_keys w6 (.int .u64 a) (.int .u64 b) (.int .u64 c) (.int .u64 d)).2.2
            have hW6 := below_step hW hB6 hW.size
            have hW7 := below_step hW6 hX hW6.size
            clear hka hkb hJ hO hr hW hB6 hW6 hX
            go_wp2_with (go_at_call 15; refine (awake44 _).mono ?_; rintro e w9 ⟨rfl, hB9⟩)
            go_ret
            exact ⟨rfl, below_step hW7 hB9 hW7.size⟩
  · have hno' : keep < 1 ∨ 8 < keep := by omega
    go_enter Try.func5, Try.ntmps5
    go_wp2_with fail
    refine (new_nil s keep _ hno').mono ?_
    rintro e w1 ⟨rfl, rfl⟩
    go_wp2_with fail
    refine (new_nil s keep _ hno').mono ?_
    rintro e w1 ⟨rfl, rfl⟩
    by_cases h1 : keep < 1
    · go_wp2_with (go_at_call 15; refine (awake44 _).mono ?_; rintro e w2 ⟨rfl, hB2⟩)
      go_ret
      exact ⟨rfl, below_step hT.2.2 hB2 hT.2.2.size⟩
    · have h2 : 8 < keep := by omega
      go_wp2_with (go_at_call 15; refine (awake44 _).mono ?_; rintro e w2 ⟨rfl, hB2⟩)
      go_ret
      exact ⟨rfl, below_step hT.2.2 hB2 hT.2.2.size⟩
end Go.Proofs.Ytdgjbaeflbggpaa
