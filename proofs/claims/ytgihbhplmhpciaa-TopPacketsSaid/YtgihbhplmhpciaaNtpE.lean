/- Encode writes the header's numbers.
  SEATS: ext guard -/
import Derived.Test.YtgihbhplmhpciaaNtp
import Derived.Laws.BitsAllLaws
import Derived.IntWalk
namespace Go.Proofs.Ytgihbhplmhpciaa
open Go.RowKit
set_option linter.unusedVariables false

def ntpFirst (p : Ntp) : Int := p.leap * 64 + p.version * 8 + p.mode
def ntpFields (p : Ntp) : List (Nat × Nat) := [((ntpFirst p).toNat, 1), (p.stratum.toNat, 1), ((p.poll % 256).toNat, 1), ((p.prec % 256).toNat, 1), (p.d1.toNat, 4), (p.d2.toNat, 4), (p.id.toNat, 4), (p.t1.toNat, 8), (p.t2.toNat, 8), (p.t3.toNat, 8), (p.t4.toNat, 8)]
def ntpBytes (p : Ntp) : List UInt8 := putBytes (ntpFields p)

theorem ntp_ok {p : Ntp} (h : p.ok = true) : (0 ≤ p.leap ∧ p.leap ≤ 3) ∧ (1 ≤ p.version ∧ p.version ≤ 4) ∧ (0 ≤ p.mode ∧ p.mode ≤ 7) ∧ (0 ≤ p.stratum ∧ p.stratum ≤ 255) ∧ (-128 ≤ p.poll ∧ p.poll ≤ 127) ∧ (-128 ≤ p.prec ∧ p.prec ≤ 127) := by
  unfold Ntp.ok at h
  simp only [Bool.and_eq_true, inB_iff] at h
  exact ⟨h.1.1.1.1.1, h.1.1.1.1.2, h.1.1.1.2, h.1.1.2, h.1.2, h.2⟩

theorem first_or (a b c : Int) (ha : 0 ≤ a ∧ a ≤ 3) (hb : 1 ≤ b ∧ b ≤ 4) (hc : 0 ≤ c ∧ c ≤ 7) : bits .or .i64 (bits .or .i64 (a * 64) (b * 8)) c = a * 64 + b * 8 + c := by
  have key : ∀ (x : Fin 4) (y : Fin 5) (z : Fin 8), bits .or .i64 (bits .or .i64 ((x.val : Int) * 64) ((y.val : Int) * 8)) (z.val : Int) = (x.val : Int) * 64 + (y.val : Int) * 8 + (z.val : Int) := by decide +kernel
  obtain ⟨a, rfl⟩ := Int.eq_ofNat_of_zero_le ha.1
  obtain ⟨b, rfl⟩ := Int.eq_ofNat_of_zero_le (show 0 ≤ b by omega)
  obtain ⟨c, rfl⟩ := Int.eq_ofNat_of_zero_le hc.1
  exact key ⟨a, by omega⟩ ⟨b, by omega⟩ ⟨c, by omega⟩

theorem ntpEncode_err (p : Ntp) (w : World) (h : p.ok = false) : Calls Try.prog 19 #[p.val] w fun e w' => e = .returned (.tuple #[.slice none 0 0, .int .i64 3]) ∧ Below w.heap.size w w' := by
  have hc : ntpCheck p = 3 := by unfold ntpCheck; rw [h]; rfl
  have hC := fun w => ntpCheck_any p w
  rw [hc] at hC
  unfold Ntp.val Ntp.cells at hC ⊢
  have HC := hide hC
  clear hC
  obtain ⟨a0, a1, a2, a3, a4, a5, b0, b1, b2, c0, c1, c2, c3⟩ := p
  dsimp only at HC ⊢
  have hB := (Below.refl w.heap.size w).alloc (Nat.le_refl _) (.cells #[.int .i64 a0, .int .i64 a1, .int .i64 a2, .int .i64 a3, .int .i64 a4, .int .i64 a5, .int .u32 b0, .int .u32 b1, .int .u32 b2, .int .u64 c0, .int .u64 c1, .int .u64 c2, .int .u64 c3] 41)
  go_enter Try.func19, Try.ntmps19
  go_wp2_with fail
  refine (HC.out _).mono ?_
  rintro e w1 ⟨rfl, hB1⟩
  go_wp2
  go_ret2
  exact ⟨rfl, below_step hB hB1 hB.size⟩

set_option maxHeartbeats 1000000 in
theorem ntpEncode_ok (p : Ntp) (w : World) (h : p.ok = true) (hin : p.In) : Calls Try.prog 19 #[p.val] w fun e w' => ∃ A n c, e = .returned (.tuple #[.slice A n c, .int .i64 0]) ∧ OwnB w' w.heap.size A n c (ntpBytes p) ∧ Below w.heap.size w w' := by
  have hc : ntpCheck p = 0 := by unfold ntpCheck; rw [h]; rfl
  have hC := fun w => ntpCheck_any p w
  rw [hc] at hC
  obtain ⟨q0, q1, q2, q3, q4, q5⟩ := ntp_ok h
  obtain ⟨_, _, _, _, _, _, r0, r1, r2, r3, r4, r5, r6⟩ := hin
  have hor := first_or p.leap p.version p.mode q0 q1 q2
  unfold ntpBytes ntpFields ntpFirst
  unfold Ntp.val Ntp.cells at hC ⊢
  have HC := hide hC
  clear hC h hc
  obtain ⟨a0, a1, a2, a3, a4, a5, b0, b1, b2, c0, c1, c2, c3⟩ := p
  dsimp only at *
  have hb0 := Blk.new w 41 [.int .i64 a0, .int .i64 a1, .int .i64 a2, .int .i64 a3, .int .i64 a4, .int .i64 a5, .int .u32 b0, .int .u32 b1, .int .u32 b2, .int .u64 c0, .int .u64 c1, .int .u64 c2, .int .u64 c3]
  have hB := (Below.refl w.heap.size w).alloc (Nat.le_refl _) (.cells #[.int .i64 a0, .int .i64 a1, .int .i64 a2, .int .i64 a3, .int .i64 a4, .int .i64 a5, .int .u32 b0, .int .u32 b1, .int .u32 b2, .int .u64 c0, .int .u64 c1, .int .u64 c2, .int .u64 c3] 41)
  have hpairs : pairs [((a0 * 64 + a1 * 8 + a2).toNat, 1), (a3.toNat, 1), ((a4 % 256).toNat, 1), ((a5 % 256).toNat, 1), (b0.toNat, 4), (b1.toNat, 4), (b2.toNat, 4), (c0.toNat, 8), (c1.toNat, 8), (c2.toNat, 8), (c3.toNat, 8)] = [.int .u64 (a0 * 64 + a1 * 8 + a2), .int .i64 1, .int .u64 a3, .int .i64 1, .int .u64 (a4 % 256), .int .i64 1, .int .u64 (a5 % 256), .int .i64 1, .int .u64 b0, .int .i64 4, .int .u64 b1, .int .i64 4, .int .u64 b2, .int .i64 4, .int .u64 c0, .int .i64 8, .int .u64 c1, .int .i64 8, .int .u64 c2, .int .i64 8, .int .u64 c3, .int .i64 8] := by
    have e0 : (((a0 * 64 + a1 * 8 + a2).toNat : Nat) : Int) = a0 * 64 + a1 * 8 + a2 := Int.toNat_of_nonneg (by omega)
    have e1 : ((a3.toNat : Nat) : Int) = a3 := Int.toNat_of_nonneg (by omega)
    have e2 : (((a4 % 256).toNat : Nat) : Int) = a4 % 256 := Int.toNat_of_nonneg (by omega)
    have e3 : (((a5 % 256).toNat : Nat) : Int) = a5 % 256 := Int.toNat_of_nonneg (by omega)
    have e4 : ((b0.toNat : Nat) : Int) = b0 := Int.toNat_of_nonneg (by omega)
    have e5 : ((b1.toNat : Nat) : Int) = b1 := Int.toNat_of_nonneg (by omega)
    have e6 : ((b2.toNat : Nat) : Int) = b2 := Int.toNat_of_nonneg (by omega)
    have e7 : ((c0.toNat : Nat) : Int) = c0 := Int.toNat_of_nonneg (by omega)
    have e8 : ((c1.toNat : Nat) : Int) = c1 := Int.toNat_of_nonneg (by omega)
    have e9 : ((c2.toNat : Nat) : Int) = c2 := Int.toNat_of_nonneg (by omega)
    have e10 : ((c3.toNat : Nat) : Int) = c3 := Int.toNat_of_nonneg (by omega)
    simp only [pairs, List.flatMap_cons, List.flatMap_nil, List.cons_append, List.nil_append, e0, e1, e2, e3, e4, e5, e6, e7, e8, e9, e10]
    rfl
  have hall : ∀ x ∈ ([((a0 * 64 + a1 * 8 + a2).toNat, 1), (a3.toNat, 1), ((a4 % 256).toNat, 1), ((a5 % 256).toNat, 1), (b0.toNat, 4), (b1.toNat, 4), (b2.toNat, 4), (c0.toNat, 8), (c1.toNat, 8), (c2.toNat, 8), (c3.toNat, 8)] : List (Nat × Nat)), 1 ≤ x.2 ∧ x.2 ≤ 8 ∧ x.1 < 256 ^ x.2 := by
    intro x hx
    simp only [List.mem_cons, List.not_mem_nil, or_false] at hx
    rcases hx with rfl | rfl | rfl | rfl | rfl | rfl | rfl | rfl | rfl | rfl | rfl <;> simp only [Nat.reducePow] <;> omega
  go_enter Try.func19, Try.ntmps19
  go_wp2_with fail
  refine (HC.out _).mono ?_
  rintro e w1 ⟨rfl, hB1⟩
  have hb1 := hb0.below' hB1
  have k0 := hb1.cell 0
  have k1 := hb1.cell 1
  have k2 := hb1.cell 2
  have k3 := hb1.cell 3
  have k4 := hb1.cell 4
  have k5 := hb1.cell 5
  have k6 := hb1.cell 6
  have k7 := hb1.cell 7
  have k8 := hb1.cell 8
  have k9 := hb1.cell 9
  have k10 := hb1.cell 10
  have k11 := hb1.cell 11
  have k12 := hb1.cell 12
  simp only [List.getElem?_cons_zero, List.getElem?_cons_succ] at k0 k1 k2 k3 k4 k5 k6 k7 k8 k9 k10 k11 k12
  have hW1 := below_step hB hB1 hB.size
  clear hb0 hB hB1
  go_wp2_with fail
  have hbn : Blk (w1.alloc (.cells #[.int .u64 (a0 * 64 + a1 * 8 + a2), .int .i64 1, .int .u64 a3, .int .i64 1, .int .u64 (a4 % 256), .int .i64 1, .int .u64 (a5 % 256), .int .i64 1, .int .u64 b0, .int .i64 4, .int .u64 b1, .int .i64 4, .int .u64 b2, .int .i64 4, .int .u64 c0, .int .i64 8, .int .u64 c1, .int .i64 8, .int .u64 c2, .int .i64 8, .int .u64 c3, .int .i64 8] 64)) w1.heap.size 64 (pairs [((a0 * 64 + a1 * 8 + a2).toNat, 1), (a3.toNat, 1), ((a4 % 256).toNat, 1), ((a5 % 256).toNat, 1), (b0.toNat, 4), (b1.toNat, 4), (b2.toNat, 4), (c0.toNat, 8), (c1.toNat, 8), (c2.toNat, 8), (c3.toNat, 8)]) := by
    rw [hpairs]
    exact Blk.new w1 64 [.int .u64 (a0 * 64 + a1 * 8 + a2), .int .i64 1, .int .u64 a3, .int .i64 1, .int .u64 (a4 % 256), .int .i64 1, .int .u64 (a5 % 256), .int .i64 1, .int .u64 b0, .int .i64 4, .int .u64 b1, .int .i64 4, .int .u64 b2, .int .i64 4, .int .u64 c0, .int .i64 8, .int .u64 c1, .int .i64 8, .int .u64 c2, .int .i64 8, .int .u64 c3, .int .i64 8]
  have hB2 := (Below.refl w1.heap.size w1).alloc (Nat.le_refl _) (.cells #[.int .u64 (a0 * 64 + a1 * 8 + a2), .int .i64 1, .int .u64 a3, .int .i64 1, .int .u64 (a4 % 256), .int .i64 1, .int .u64 (a5 % 256), .int .i64 1, .int .u64 b0, .int .i64 4, .int .u64 b1, .int .i64 4, .int .u64 b2, .int .i64 4, .int .u64 c0, .int .i64 8, .int .u64 c1, .int .i64 8, .int .u64 c2, .int .i64 8, .int .u64 c3, .int .i64 8] 64)
  refine (ntpPut_any w1.heap.size [((a0 * 64 + a1 * 8 + a2).toNat, 1), (a3.toNat, 1), ((a4 % 256).toNat, 1), ((a5 % 256).toNat, 1), (b0.toNat, 4), (b1.toNat, 4), (b2.toNat, 4), (c0.toNat, 8), (c1.toNat, 8), (c2.toNat, 8), (c3.toNat, 8)] 11 _ hbn rfl (by omega) hall).mono ?_
  rintro e w2 ⟨A, m, c, rfl, hown, hB3⟩
  go_wp2
  go_ret2
  have hW2 := below_step hW1 hB2 hW1.size
  exact ⟨A, m, c, rfl, hown.mono hW2.size, below_step hW2 hB3 hW2.size⟩
end Go.Proofs.Ytgihbhplmhpciaa
