/- The plain law of headers: what was written is read.
  SEATS: ext guard -/
import Derived.Test.YtgihbhplmhpciaaNtpE
import Derived.Test.YtgihbhplmhpciaaNtpD
namespace Go.Proofs.Ytgihbhplmhpciaa
open Go.RowKit
set_option linter.unusedVariables false

theorem nt_be_snoc (n b : Nat) (hb : b < 256) : ∀ k, be (n * 256 + b) (k + 1) = be n k ++ [UInt8.ofNat b]
  | 0 => by
    have : UInt8.ofNat (n * 256 + b) = UInt8.ofNat b := by
      apply UInt8.toNat.inj
      simp
    simp [be, this]
  | k + 1 => by
    have h1 : (n * 256 + b) / 256 ^ (k + 1) = n / 256 ^ k := by
      rw [Nat.pow_succ, Nat.mul_comm (256 ^ k) 256, ← Nat.div_div_eq_div_mul, show (n * 256 + b) / 256 = n by omega]
    rw [be, h1, nt_be_snoc n b hb k, be]
    rfl
theorem nt_ofBe_be : ∀ (k n : Nat), n < 256 ^ k → ofBe (be n k) = n
  | 0, n, h => by
    simp at h
    subst h
    rfl
  | k + 1, n, h => by
    have h1 : n / 256 < 256 ^ k := by
      rw [Nat.pow_succ] at h
      omega
    rw [show n = n / 256 * 256 + n % 256 by omega, nt_be_snoc _ _ (Nat.mod_lt _ (by omega)) k, ofBe_snoc, nt_ofBe_be k _ h1]
    have : (UInt8.ofNat (n % 256)).toNat = n % 256 := by simp
    omega

theorem num_at (l1 l2 : List (Nat × Nat)) (n s : Nat) (r : List UInt8) (P : Nat) (hP : (putBytes l1).length = P) (h : n < 256 ^ s) : num (putBytes (l1 ++ (n, s) :: l2) ++ r) P s = n := by
  unfold num sub
  subst hP
  have e : putBytes (l1 ++ (n, s) :: l2) ++ r = putBytes l1 ++ (be n s ++ (putBytes l2 ++ r)) := by simp [putBytes, List.append_assoc]
  rw [e, List.drop_left, List.take_left' (be_length n s), nt_ofBe_be s n h]

theorem ntpBytes_length (p : Ntp) : (ntpBytes p).length = 48 := by
  simp [ntpBytes, ntpFields, putBytes, be_length]

theorem sgn_byte (n : Int) (h : -128 ≤ n ∧ n ≤ 127) : sgn (n % 256).toNat 1 = n := by
  unfold sgn
  simp only [Nat.reduceMul, Nat.reduceSub, Nat.reducePow, Int.reducePow]
  split <;> omega

theorem ntp_first (p : Ntp) (r : List UInt8) (h : p.ok = true) : (num (ntpBytes p ++ r) 0 1 : Int) = ntpFirst p := by
  obtain ⟨q0, q1, q2, _⟩ := ntp_ok h
  have e := num_at [] [(p.stratum.toNat, 1), ((p.poll % 256).toNat, 1), ((p.prec % 256).toNat, 1), (p.d1.toNat, 4), (p.d2.toNat, 4), (p.id.toNat, 4), (p.t1.toNat, 8), (p.t2.toNat, 8), (p.t3.toNat, 8), (p.t4.toNat, 8)] (ntpFirst p).toNat 1 r 0 rfl (by unfold ntpFirst; omega)
  have e' : num (ntpBytes p ++ r) 0 1 = (ntpFirst p).toNat := e
  rw [e']
  exact Int.toNat_of_nonneg (by unfold ntpFirst; omega)

theorem ntp_kind (p : Ntp) (r : List UInt8) (h : p.ok = true) : ¬ (num (ntpBytes p ++ r) 0 1 / 8 % 8 = 0 ∨ 4 < num (ntpBytes p ++ r) 0 1 / 8 % 8) := by
  obtain ⟨q0, q1, q2, _⟩ := ntp_ok h
  have e := ntp_first p r h
  unfold ntpFirst at e
  omega

set_option maxRecDepth 10000 in
theorem ntp_back (p : Ntp) (r : List UInt8) (h : p.ok = true) (hin : p.In) : ntpOf (ntpBytes p ++ r) = p := by
  obtain ⟨q0, q1, q2, q3, q4, q5⟩ := ntp_ok h
  obtain ⟨_, _, _, _, _, _, r0, r1, r2, r3, r4, r5, r6⟩ := hin
  have e0 := ntp_first p r h
  unfold ntpFirst at e0
  have A (l1 l2 : List (Nat × Nat)) (n s P : Nat) (hl : ntpFields p = l1 ++ (n, s) :: l2) (hP : (putBytes l1).length = P) (hn : n < 256 ^ s) : num (ntpBytes p ++ r) P s = n := by
    unfold ntpBytes
    rw [hl]
    exact num_at l1 l2 n s r P hP hn
  let f : List (Nat × Nat) := ntpFields p
  have k1 := A (f.take 1) (f.drop 2) p.stratum.toNat 1 1 rfl (by simp [f, ntpFields, putBytes, be_length]) (by omega)
  have k2 := A (f.take 2) (f.drop 3) (p.poll % 256).toNat 1 2 rfl (by simp [f, ntpFields, putBytes, be_length]) (by omega)
  have k3 := A (f.take 3) (f.drop 4) (p.prec % 256).toNat 1 3 rfl (by simp [f, ntpFields, putBytes, be_length]) (by omega)
  have k4 := A (f.take 4) (f.drop 5) p.d1.toNat 4 4 rfl (by simp [f, ntpFields, putBytes, be_length]) (by simp only [Nat.reducePow]; omega)
  have k5 := A (f.take 5) (f.drop 6) p.d2.toNat 4 8 rfl (by simp [f, ntpFields, putBytes, be_length]) (by simp only [Nat.reducePow]; omega)
  have k6 := A (f.take 6) (f.drop 7) p.id.toNat 4 12 rfl (by simp [f, ntpFields, putBytes, be_length]) (by simp only [Nat.reducePow]; omega)
  have k7 := A (f.take 7) (f.drop 8) p.t1.toNat 8 16 rfl (by simp [f, ntpFields, putBytes, be_length]) (by simp only [Nat.reducePow]; omega)
  have k8 := A (f.take 8) (f.drop 9) p.t2.toNat 8 24 rfl (by simp [f, ntpFields, putBytes, be_length]) (by simp only [Nat.reducePow]; omega)
  have k9 := A (f.take 9) (f.drop 10) p.t3.toNat 8 32 rfl (by simp [f, ntpFields, putBytes, be_length]) (by simp only [Nat.reducePow]; omega)
  have k10 := A (f.take 10) (f.drop 11) p.t4.toNat 8 40 rfl (by simp [f, ntpFields, putBytes, be_length]) (by simp only [Nat.reducePow]; omega)
  unfold ntpOf
  rw [k1, k2, k3, k4, k5, k6, k7, k8, k9, k10, sgn_byte _ q4, sgn_byte _ q5]
  obtain ⟨a0, a1, a2, a3, a4, a5, b0, b1, b2, c0, c1, c2, c3⟩ := p
  simp only [Ntp.mk.injEq, true_and]
  dsimp only at *
  refine ⟨by omega, by omega, by omega, by omega, by omega, by omega, by omega, by omega, by omega, by omega, by omega⟩
end Go.Proofs.Ytgihbhplmhpciaa
