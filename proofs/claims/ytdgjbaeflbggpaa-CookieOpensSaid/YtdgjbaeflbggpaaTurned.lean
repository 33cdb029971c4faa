/- turned: a jar of the program and one of the reference after some rotations.
  SEATS: cookie -/
import Derived.Test.YtdgjbaeflbggpaaAwake44
namespace Go.Proofs.Ytdgjbaeflbggpaa
open Go.RowKit
set_option linter.unusedVariables false

set_option maxHeartbeats 1000000 in
theorem turned_ok (s keep : Int) (T : Nat) (w : World) (h1 : 1 ≤ keep) (h2 : keep ≤ 8) (hT : T ≤ 255) :
    Calls Try.prog 9 #[.int .u64 s, .int .i64 keep, .int .u8 (T : Nat)] w fun e w' => e = .returned (.tuple #[.pointer (some ⟨w.heap.size, 0, none⟩), .pointer (some ⟨w.heap.size + 1, 0, none⟩)]) ∧ JarAt w' w.heap.size s (1 + T) keep.toNat ∧ RefAt w' (w.heap.size + 1) s (1 + T) keep.toNat ∧ Below w.heap.size w w' := by
  go_enter Try.func9, Try.ntmps9
  go_wp2_with fail
  refine (new_ok s keep w h1 h2).mono ?_
  rintro e w1 ⟨rfl, hJ1, hB1, hz1⟩
  go_wp2_with fail
  refine (refNew_ok s keep w1 h1 h2).mono ?_
  rintro e w2 ⟨rfl, hK2, hB2, hz2⟩
  have hJ2 : JarAt w2 w.heap.size s 1 keep.toNat := Blk.below' hJ1 hB2
  have hW2 := below_step hB1 hB2 hB1.size
  rw [hz1] at hK2 ⊢
  clear hB1 hB2 hz2 hJ1
  go_wp2
  go_loopw [17] (fun iv wr => ∃ k : Nat, k ≤ T ∧ iv = .int .u8 k ∧ JarAt wr w.heap.size s (1 + k) keep.toNat ∧ RefAt wr (w.heap.size + 1) s (1 + k) keep.toNat ∧ Below w.heap.size w wr) (fun iv _ => T - (intOf iv).toNat)
  case atStart => exact ⟨0, by omega, rfl, hJ2, hK2, hW2⟩
  case round =>
    obtain ⟨k, hk, rfl, hJ, hK, hW⟩ := hrel
    by_cases hlt : k < T
    · have hkI : (k : Int) < (T : Int) := by omega
      go_wp2_with fail
      refine (rotate_ok w.heap.size s (1 + k) _ wr hJ (by omega)).mono ?_
      rintro e w3 ⟨rfl, hJ3, hG3⟩
      have hK3 : RefAt w3 (w.heap.size + 1) s (1 + k) keep.toNat := Blk.grown hK hG3 (by simp)
      have hW3 := hW.grown hG3 hW.size (by rintro k ⟨rfl⟩; exact Nat.le_refl _)
      go_wp2_with fail
      refine (refRotate_ok (w.heap.size + 1) s (1 + k) _ w3 hK3 (by omega)).mono ?_
      rintro e w4 ⟨rfl, hK4, hG4⟩
      have hJ4 : JarAt w4 w.heap.size s (1 + k + 1) keep.toNat := Blk.grown hJ3 hG4 (by simp)
      have hW4 := hW3.grown hG4 hW3.size (by rintro k ⟨rfl⟩; exact Nat.le_succ _)
      go_wp2
      exact ⟨⟨k + 1, by omega, by go_num, hJ4, hK4, hW4⟩, by simp [intOf]; omega⟩
    · obtain rfl : k = T := by omega
      go_wp2
      go_ret2
      exact ⟨rfl, hJ, hK, hW⟩

theorem turned_nil (s keep : Int) (T : Nat) (w : World) (h : keep < 1 ∨ 8 < keep) (hT : T ≤ 255) :
    Calls Try.prog 9 #[.int .u64 s, .int .i64 keep, .int .u8 (T : Nat)] w fun e w' => e = .returned (.tuple #[.pointer none, .pointer none]) ∧ w = w' := by
  go_enter Try.func9, Try.ntmps9
  go_wp2_with fail
  refine (new_nil s keep w h).mono ?_
  rintro e w1 ⟨rfl, rfl⟩
  go_wp2_with fail
  refine (refNew_nil s keep w h).mono ?_
  rintro e w1 ⟨rfl, rfl⟩
  go_wp2
  go_loopw [17] (fun iv wr => ∃ k : Nat, k ≤ T ∧ iv = .int .u8 k ∧ w = wr) (fun iv _ => T - (intOf iv).toNat)
  case atStart => exact ⟨0, by omega, rfl, rfl⟩
  case round =>
    obtain ⟨k, hk, rfl, rfl⟩ := hrel
    by_cases hlt : k < T
    · have hkI : (k : Int) < (T : Int) := by omega
      go_wp2_with fail
      refine (rotate_nil w).mono ?_
      rintro e w3 ⟨rfl, rfl⟩
      go_wp2_with fail
      refine (refRotate_nil w).mono ?_
      rintro e w4 ⟨rfl, rfl⟩
      go_wp2
      exact ⟨⟨k + 1, by omega, by go_num, by trivial⟩, by simp [intOf]; omega⟩
    · obtain rfl : k = T := by omega
      go_wp2
      go_ret2
      exact ⟨rfl, rfl⟩
end Go.Proofs.Ytdgjbaeflbggpaa
