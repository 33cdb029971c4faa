/- CookieLengths.
  SEATS: cookie -/
import Derived.Test.YtdgjbaeflbggpaaAwake44
import Derived.Test.YtdgjbaeflbggpaaMakeU
import Derived.Deep.DeepCutAuto
namespace Go.Proofs.Ytdgjbaeflbggpaa
open Go.RowKit
set_option linter.unusedVariables false

/-- Open's number for so many zeros. -/
def zerosErr (L : Nat) : Int := if L < 52 then 5 else if 52 < L then 6 else 17

theorem open_zeros (g : Nat) (s : Int) (A : Option Addr) (L : Nat) (w : World) (hJ : JarAt w g s 1 2) (h : RB w A L L (List.replicate L 0)) :
    Calls Try.prog 16 #[.pointer (some ⟨g, 0, none⟩), .slice A L L] w fun e w' => e = .returned (.tuple #[zero2, zero2, .int .i64 (zerosErr L)]) ∧ Below w.heap.size w w' := by
  unfold zerosErr
  by_cases h1 : L < 52
  · rw [if_pos h1]
    exact open_short g s 1 2 A L L _ w hJ h h1
  · rw [if_neg h1]
    by_cases h2 : 52 < L
    · rw [if_pos h2]
      exact open_long g s 1 2 A L L _ w hJ h h2
    · rw [if_neg h2]
      obtain rfl : L = 52 := by omega
      refine (open_52 g s 1 2 A 52 _ w hJ h (by omega) (by omega)).mono ?_
      rintro e w' ⟨rfl, hB⟩
      have : openRes s 1 2 (List.replicate 52 0) = .tuple #[zero2, zero2, .int .i64 17] := by
        unfold openRes
        rw [zeros_gen, if_pos (by omega)]
      rw [this]
      exact ⟨rfl, hB⟩

theorem cookie_eq (s nonce other : Int) (x : Nat → Int) (h1 : 0 ≤ nonce ∧ nonce ≤ 18446744073709551615) (h2 : 0 ≤ other ∧ other ≤ 18446744073709551615) :
    (cookieOf s 1 nonce x == cookieOf s 1 other x) = (nonce == other) := by
  by_cases h : nonce = other
  · subst h
    exact (beq_self_eq_true _).trans (beq_self_eq_true _).symm
  · have hne : cookieOf s 1 nonce x ≠ cookieOf s 1 other x := by
      intro he
      have := cookie_nonce s 1 nonce x h1
      rw [he, cookie_nonce s 1 other x h2] at this
      exact h this.symm
    exact (beq_eq_false_iff_ne.2 hne).trans (beq_eq_false_iff_ne.2 h).symm

set_option maxHeartbeats 2000000 in
theorem cookieLengths_any (s a b c d nonce other n : Int) (w : World) (hs : 0 ≤ s ∧ s ≤ 18446744073709551615) (ha : 0 ≤ a ∧ a ≤ 18446744073709551615) (hb : 0 ≤ b ∧ b ≤ 18446744073709551615) (hc : 0 ≤ c ∧ c ≤ 18446744073709551615) (hd : 0 ≤ d ∧ d ≤ 18446744073709551615) (hno : 0 ≤ nonce ∧ nonce ≤ 18446744073709551615) (hot : 0 ≤ other ∧ other ≤ 18446744073709551615) (hn : 0 ≤ n ∧ n ≤ 65535) :
    Calls Try.prog 6 #[.int .u64 s, .agg #[.int .u64 a, .int .u64 b], .agg #[.int .u64 c, .int .u64 d], .int .u64 nonce, .int .u64 other, .int .u16 n] w fun e w' => e = .returned (.bool true) ∧ Below w.heap.size w w' := by
  obtain ⟨hn0, hn1⟩ := hn
  obtain ⟨N, rfl⟩ := Int.eq_ofNat_of_zero_le hn0
  obtain ⟨L, hL⟩ : ∃ L : Nat, (N : Int) % 301 = (L : Int) := ⟨N % 301, by omega⟩
  have hLb : L ≤ 300 := by omega
  have hmk := run_make_bytes .u16 L (by omega)
  have hT := two_keys w (.int .u64 a) (.int .u64 b) (.int .u64 c) (.int .u64 d)
  go_enter Try.func6, Try.ntmps6
  go_wp2_with fail
  refine (new_ok s 2 _ (by omega) (by omega)).mono ?_
  rintro e w1 ⟨rfl, hJ1, hB1, hz1⟩
  rw [size_two] at hJ1 hz1
  have hW1 := below_step hT.2.2 hB1 hT.2.2.size
  have hbz : Blk (w1.alloc (.cells (Array.replicate L (.int .u8 0)) 5)) (w.heap.size + 1 + 1 + 1) 5 (List.replicate L (.int .u8 0)) := by
    have := Blk.new w1 5 (List.replicate L (.int .u8 0))
    rw [hz1] at this
    simpa using this
  have hBz := (Below.refl _ w1).alloc (Nat.le_refl _) (.cells (Array.replicate L (.int .u8 0)) 5)
  have hka := (hT.1.below' hB1).below' hBz
  have hkb := (hT.2.1.below' hB1).below' hBz
  have hJz : JarAt _ (w.heap.size + 1 + 1) s 1 2 := Blk.below' hJ1 hBz
  have hWz := below_step hW1 hBz hW1.size
  clear hT hB1 hW1 hJ1 hBz
  go_wp2_with fail
  refine (open_zeros (w.heap.size + 1 + 1) s _ L _ hJz (zeros_rb L hbz (by omega))).mono ?_
  rintro e w2 ⟨rfl, hB2⟩
  unfold zero2
  have hX := (two_keys w2 (.int .u64 0) (.int .u64 0) (.int .u64 0) (.int .u64 0)).2.2
  have hka := (hka.below' hB2).below' hX
  have hkb := (hkb.below' hB2).below' hX
  have hJ : JarAt _ (w.heap.size + 1 + 1) s 1 2 := Blk.below' (Blk.below' hJz hB2) hX
  have hW2 := below_step hWz hB2 hWz.size
  have hW := below_step hW2 hX hW2.size
  clear hX hB2 hW2 hWz hJz hbz
  have k0 := hka.cell 0
  have k1 := hka.cell 1
  have k2 := hkb.cell 0
  have k3 := hkb.cell 1
  simp only [List.getElem?_cons_zero, List.getElem?_cons_succ] at k0 k1 k2 k3
  have hz : L < 52 ∧ zerosErr L = 5 ∨ 52 < L ∧ zerosErr L = 6 ∨ L = 52 ∧ zerosErr L = 17 := by
    unfold zerosErr
    split
    · exact .inl ⟨by assumption, rfl⟩
    · split
      · exact .inr (.inl ⟨by assumption, rfl⟩)
      · exact .inr (.inr ⟨by omega, rfl⟩)
  generalize hzz : zerosErr L = ze at *
  clear hzz
  go_upto_region 4 with (fail)
  generalize (w2.alloc (.cells #[.int .u64 0, .int .u64 0] 24)).alloc (.cells #[.int .u64 0, .int .u64 0] 24) = wz at *
  go_cut [56] (fun t wx => t = .bool false ∧ wx = wz)
  case first =>
    clear k0 k1 k2 k3 hJ hW hka hkb
    rcases hz with ⟨h1, rfl⟩ | ⟨h1, rfl⟩ | ⟨rfl, rfl⟩
    all_goals
      go_wp2
      go_meet
      exact ⟨rfl, rfl⟩
  case rest =>
    obtain ⟨rfl, rfl⟩ := hcut
    obtain ⟨W, hWW⟩ : ∃ W, W = wc := ⟨_, rfl⟩
    subst hWW
    have hJd : JarAt W.drew (w.heap.size + 1 + 1) s 1 2 := hJ
    have hG : 1 ≤ 2147483647 := by omega
    clear hz hmk hka hkb
    go_wp2
    go_region_held3 (fun w' => w'.cell? ⟨w.heap.size, 0, none⟩ = some (.int .u64 a) ∧ w'.cell? ⟨w.heap.size, 1, none⟩ = some (.int .u64 b) ∧ w'.cell? ⟨w.heap.size + 1, 0, none⟩ = some (.int .u64 c) ∧ w'.cell? ⟨w.heap.size + 1, 1, none⟩ = some (.int .u64 d))
      (first | exact ⟨k0, k1, k2, k3⟩ | exact ⟨m0, m1, m2, m3⟩ | exact ⟨n0, n1, n2, n3⟩)
      (first
        | (have hB3' := hB3; go_at_call 11; refine (seal_any (w.heap.size + 1 + 1) s 1 2 a b c d other w3 (Blk.below' hJd hB3) hG hot).mono ?_; rintro e w4 ⟨A4, q4, c4, rfl, hr4, hB4⟩; have n0 := cell_keep hB4 m0; have n1 := cell_keep hB4 m1; have n2 := cell_keep hB4 m2; have n3 := cell_keep hB4 m3)
        | (go_at_call 11; refine (seal_any (w.heap.size + 1 + 1) s 1 2 a b c d nonce W.drew hJd hG hno).mono ?_; rintro e w3 ⟨A3, q3, c3, rfl, hr3, hB3⟩; have m0 := cell_keep hB3 k0; have m1 := cell_keep hB3 k1; have m2 := cell_keep hB3 k2; have m3 := cell_keep hB3 k3))
    have hW3 := below_step hW.drew hB3 hW.size
    have hW4 := below_step hW3 hB4 hW3.size
    go_wp2_with fail
    refine (equal_any A3 q3 c3 _ A4 q4 c4 _ _ (hr3.below hB4) hr4).mono ?_
    rintro e w5 ⟨rfl, rfl⟩
    rw [cookie_eq s nonce other _ hno hot]
    by_cases hq : nonce = other
    · subst hq
      rw [beq_self_eq_true]
      go_wp2_with (go_at_call 15; refine (awake44 _).mono ?_; rintro e w6 ⟨rfl, hB6⟩)
      go_ret
      exact ⟨rfl, below_step hW4 hB6 hW4.size⟩
    · have hqf : (nonce == other) = false := beq_eq_false_iff_ne.2 hq
      rw [hqf]
      go_wp2_with (go_at_call 15; refine (awake44 _).mono ?_; rintro e w6 ⟨rfl, hB6⟩)
      go_ret
      exact ⟨rfl, below_step hW4 hB6 hW4.size⟩
end Go.Proofs.Ytdgjbaeflbggpaa
