/- New, Rotate and Generation, and the reference's; Seal of nobody.
  SEATS: cookie guard -/
import Derived.Test.YtdgjbaeflbggpaaSeal
namespace Go.Proofs.Ytdgjbaeflbggpaa
open Go.RowKit
set_option linter.unusedVariables false

theorem new_ok (s keep : Int) (w : World) (h1 : 1 ≤ keep) (h2 : keep ≤ 8) :
    Calls Try.prog 18 #[.int .u64 s, .int .i64 keep] w fun e w' => e = .returned (.pointer (some ⟨w.heap.size, 0, none⟩)) ∧ JarAt w' w.heap.size s 1 keep.toNat ∧ Below w.heap.size w w' ∧ w'.heap.size = w.heap.size + 1 := by
  obtain ⟨keep, rfl⟩ := Int.eq_ofNat_of_zero_le (show 0 ≤ keep by omega)
  rw [Int.toNat_natCast]
  go_enter Try.func18, Try.ntmps18
  go_wp2
  go_ret
  exact ⟨rfl, Blk.new w _ [.int .u64 s, .int .i64 1, .int .i64 keep], (Below.refl _ _).alloc (Nat.le_refl _) _, by simp⟩

theorem new_nil (s keep : Int) (w : World) (h : keep < 1 ∨ 8 < keep) :
    Calls Try.prog 18 #[.int .u64 s, .int .i64 keep] w fun e w' => e = .returned (.pointer none) ∧ w = w' := by
  by_cases h1 : keep < 1
  · go_enter Try.func18, Try.ntmps18
    go_wp2
    go_ret
    exact ⟨rfl, rfl⟩
  · have h2 : 8 < keep := by omega
    go_enter Try.func18, Try.ntmps18
    go_wp2
    go_ret
    exact ⟨rfl, rfl⟩

theorem refNew_ok (s keep : Int) (w : World) (h1 : 1 ≤ keep) (h2 : keep ≤ 8) :
    Calls Try.prog 21 #[.int .u64 s, .int .i64 keep] w fun e w' => e = .returned (.pointer (some ⟨w.heap.size, 0, none⟩)) ∧ RefAt w' w.heap.size s 1 keep.toNat ∧ Below w.heap.size w w' ∧ w'.heap.size = w.heap.size + 1 := by
  obtain ⟨keep, rfl⟩ := Int.eq_ofNat_of_zero_le (show 0 ≤ keep by omega)
  rw [Int.toNat_natCast]
  go_enter Try.func21, Try.ntmps21
  go_wp2
  go_ret
  exact ⟨rfl, Blk.new w _ [.int .u64 s, .int .i64 keep, .int .i64 1], (Below.refl _ _).alloc (Nat.le_refl _) _, by simp⟩

theorem refNew_nil (s keep : Int) (w : World) (h : keep < 1 ∨ 8 < keep) :
    Calls Try.prog 21 #[.int .u64 s, .int .i64 keep] w fun e w' => e = .returned (.pointer none) ∧ w = w' := by
  by_cases h1 : keep < 1
  · go_enter Try.func21, Try.ntmps21
    go_wp2
    go_ret
    exact ⟨rfl, rfl⟩
  · have h2 : 8 < keep := by omega
    go_enter Try.func21, Try.ntmps21
    go_wp2
    go_ret
    exact ⟨rfl, rfl⟩

set_option maxRecDepth 100000 in
theorem rotate_ok (g : Nat) (s : Int) (gen keep : Nat) (w : World) (h : JarAt w g s gen keep) (hG : gen < 2147483647) :
    Calls Try.prog 19 #[.pointer (some ⟨g, 0, none⟩)] w fun e w' => e = .returned (.int .i64 0) ∧ JarAt w' g s (gen + 1) keep ∧ w.grownBy w' (some g) := by
  have hGI : (gen : Int) < 2147483647 := by omega
  clear hG
  have h1 := h.cell 1
  have f1 := h.frozen 1
  simp only [List.getElem?_cons_zero, List.getElem?_cons_succ] at h1
  have Hset := hide (h.set_ 1 (.int .i64 ((gen : Int) + 1)))
  obtain ⟨z, hz⟩ : ∃ z : Int, z = (gen : Int) := ⟨_, rfl⟩
  have hz0 : 0 ≤ z := by omega
  have Hz := hide hz
  rw [← hz] at h1 hGI
  clear hz h
  go_enter Try.func19, Try.ntmps19
  go_wp2
  go_ret
  rw [Hz.out]
  exact ⟨rfl, Hset.out, grown_setCell _ _ _ _⟩

theorem rotate_nil (w : World) :
    Calls Try.prog 19 #[.pointer none] w fun e w' => e = .returned (.int .i64 1) ∧ w = w' := by
  go_enter Try.func19, Try.ntmps19
  go_wp2
  go_ret
  exact ⟨rfl, rfl⟩

set_option maxRecDepth 100000 in
theorem refRotate_ok (g : Nat) (s : Int) (gen keep : Nat) (w : World) (h : RefAt w g s gen keep) (hG : gen < 2147483647) :
    Calls Try.prog 22 #[.pointer (some ⟨g, 0, none⟩)] w fun e w' => e = .returned (.int .i64 0) ∧ RefAt w' g s (gen + 1) keep ∧ w.grownBy w' (some g) := by
  have hGI : (gen : Int) < 2147483647 := by omega
  have hne : ((gen : Int) == 2147483647) = false := by simp; omega
  clear hG
  have h1 := h.cell 2
  have f1 := h.frozen 2
  simp only [List.getElem?_cons_zero, List.getElem?_cons_succ] at h1
  have Hset := hide (h.set_ 2 (.int .i64 ((gen : Int) + 1)))
  obtain ⟨z, hz⟩ : ∃ z : Int, z = (gen : Int) := ⟨_, rfl⟩
  have hz0 : 0 ≤ z := by omega
  have Hz := hide hz
  rw [← hz] at h1 hGI hne
  clear hz h
  go_enter Try.func22, Try.ntmps22
  go_wp2
  go_ret
  rw [Hz.out]
  exact ⟨rfl, Hset.out, grown_setCell _ _ _ _⟩

theorem refRotate_nil (w : World) :
    Calls Try.prog 22 #[.pointer none] w fun e w' => e = .returned (.int .i64 1) ∧ w = w' := by
  go_enter Try.func22, Try.ntmps22
  go_wp2
  go_ret
  exact ⟨rfl, rfl⟩

theorem gen_any (g : Nat) (s : Int) (gen keep : Nat) (w : World) (h : JarAt w g s gen keep) :
    Calls Try.prog 13 #[.pointer (some ⟨g, 0, none⟩)] w fun e w' => e = .returned (.int .i64 gen) ∧ w = w' := by
  have h1 := h.cell 1
  simp only [List.getElem?_cons_zero, List.getElem?_cons_succ] at h1
  go_enter Try.func13, Try.ntmps13
  go_wp2
  go_ret
  exact ⟨rfl, rfl⟩
theorem gen_nil (w : World) :
    Calls Try.prog 13 #[.pointer none] w fun e w' => e = .returned (.int .i64 0) ∧ w = w' := by
  go_enter Try.func13, Try.ntmps13
  go_wp2
  go_ret
  exact ⟨rfl, rfl⟩
theorem seal_nil (k k' nonce : Value) (a b c d : Int) (hk : k = .agg #[.int .u64 a, .int .u64 b]) (hk' : k' = .agg #[.int .u64 c, .int .u64 d]) (w : World) :
    Calls Try.prog 11 #[.pointer none, k, k', nonce] w fun e w' => e = .returned (.slice none 0 0) ∧ Below w.heap.size w w' := by
  subst hk hk'
  go_enter Try.func11, Try.ntmps11
  go_wp2
  go_ret
  exact ⟨rfl, ((Below.refl _ _).alloc (Nat.le_refl _) _).alloc (by simp) _⟩
end Go.Proofs.Ytdgjbaeflbggpaa
