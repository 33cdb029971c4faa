/- The reference's small functions: Size, in, requests, control, the stamp's Check.
  SEATS: ptp -/
import Derived.Test.YtlobddhpkemklaaPtpE
namespace Go.Proofs.Ytlobddhpkemklaa
open Go.RowKit
set_option linter.unusedVariables false

theorem refIn_any (n lo hi : Int) (w : World) : Calls Try.prog 22 #[.int .i64 n, .int .i64 lo, .int .i64 hi] w fun e w' => e = .returned (.bool (inB n lo hi)) ∧ w = w' := by
  unfold inB
  go_enter Try.func22, Try.ntmps22
  go_wp2
  · go_ret
    have h : lo ≤ n := by assumption
    simp [h]
  · go_ret
    have h : n < lo := by assumption
    have h' : ¬ lo ≤ n := by omega
    simp [h']

theorem refReq_any (k : Int) (w : World) : Calls Try.prog 24 #[.int .i64 k] w fun e w' => e = .returned (.bool (isReq k)) ∧ w = w' := by
  unfold isReq
  by_cases h9 : k = 9
  · subst h9
    go_enter Try.func24, Try.ntmps24
    go_wp2
    go_ret
    exact ⟨rfl, rfl⟩
  have h9' : (k == 9) = false := by simpa using h9
  by_cases h3 : k = 3
  · subst h3
    go_enter Try.func24, Try.ntmps24
    go_wp2
    go_ret
    exact ⟨rfl, rfl⟩
  have h3' : (k == 3) = false := by simpa using h3
  go_enter Try.func24, Try.ntmps24
  go_wp2
  go_ret
  simp [h9', h3']

theorem refControl_any (k : Int) (w : World) : Calls Try.prog 32 #[.int .i64 k] w fun e w' => e = .returned (.int .i64 (controlOf k)) ∧ w = w' := by
  unfold controlOf
  by_cases h0 : k = 0
  · subst h0
    go_enter Try.func32, Try.ntmps32
    go_wp2
    go_ret
    exact ⟨rfl, rfl⟩
  have h0' : (k == 0) = false := by simpa using h0
  by_cases h1 : k = 1
  · subst h1
    go_enter Try.func32, Try.ntmps32
    go_wp2
    go_ret
    exact ⟨rfl, rfl⟩
  have h1' : (k == 1) = false := by simpa using h1
  by_cases h8 : k = 8
  · subst h8
    go_enter Try.func32, Try.ntmps32
    go_wp2
    go_ret
    exact ⟨rfl, rfl⟩
  have h8' : (k == 8) = false := by simpa using h8
  by_cases h9 : k = 9
  · subst h9
    go_enter Try.func32, Try.ntmps32
    go_wp2
    go_ret
    exact ⟨rfl, rfl⟩
  have h9' : (k == 9) = false := by simpa using h9
  rw [if_neg h0, if_neg h1, if_neg h8, if_neg h9]
  go_enter Try.func32, Try.ntmps32
  go_wp2
  go_ret
  exact ⟨rfl, rfl⟩

theorem refSize_any (k : Int) (w : World) : Calls Try.prog 12 #[.int .i64 k] w fun e w' => e = .returned (.int .i64 (sizeOfKind k)) ∧ w = w' := by
  by_cases h0 : k = 0
  · subst h0
    go_enter Try.func12, Try.ntmps12
    go_wp2
    go_ret
    exact ⟨rfl, rfl⟩
  have h0' : (k == 0) = false := by simpa using h0
  by_cases h1 : k = 1
  · subst h1
    go_enter Try.func12, Try.ntmps12
    go_wp2
    go_ret
    exact ⟨rfl, rfl⟩
  have h1' : (k == 1) = false := by simpa using h1
  by_cases h8 : k = 8
  · subst h8
    go_enter Try.func12, Try.ntmps12
    go_wp2
    go_ret
    exact ⟨rfl, rfl⟩
  have h8' : (k == 8) = false := by simpa using h8
  by_cases h2 : k = 2
  · subst h2
    go_enter Try.func12, Try.ntmps12
    go_wp2
    go_ret
    exact ⟨rfl, rfl⟩
  have h2' : (k == 2) = false := by simpa using h2
  by_cases h3 : k = 3
  · subst h3
    go_enter Try.func12, Try.ntmps12
    go_wp2
    go_ret
    exact ⟨rfl, rfl⟩
  have h3' : (k == 3) = false := by simpa using h3
  by_cases h9 : k = 9
  · subst h9
    go_enter Try.func12, Try.ntmps12
    go_wp2
    go_ret
    exact ⟨rfl, rfl⟩
  have h9' : (k == 9) = false := by simpa using h9
  by_cases h10 : k = 10
  · subst h10
    go_enter Try.func12, Try.ntmps12
    go_wp2
    go_ret
    exact ⟨rfl, rfl⟩
  have h10' : (k == 10) = false := by simpa using h10
  by_cases h11 : k = 11
  · subst h11
    go_enter Try.func12, Try.ntmps12
    go_wp2
    go_ret
    exact ⟨rfl, rfl⟩
  have h11' : (k == 11) = false := by simpa using h11
  have e : sizeOfKind k = 0 := by unfold sizeOfKind; rw [if_neg (by omega), if_neg (by omega), if_neg (by omega)]
  rw [e]
  go_enter Try.func12, Try.ntmps12
  go_wp2
  go_ret
  exact ⟨rfl, rfl⟩

theorem refStamp_any (sec nano : Int) (w : World) : Calls Try.prog 23 #[.agg #[.int .i64 sec, .int .i64 nano]] w fun e w' => e = .returned (.int .i64 (stampErr sec nano)) ∧ Below w.heap.size w w' := by
  have hB := (Below.refl w.heap.size w).alloc (Nat.le_refl _) (.cells #[.int .i64 sec, .int .i64 nano] 24)
  unfold stampErr stampOk
  by_cases h0 : sec < 0
  · rw [decide_eq_true h0]
    go_enter Try.func23, Try.ntmps23
    go_wp2
    go_ret
    exact ⟨rfl, hB⟩
  by_cases h1 : 281474976710655 < sec
  · rw [decide_eq_true h1]
    go_enter Try.func23, Try.ntmps23
    go_wp2
    go_ret
    simp [hB]
  by_cases h2 : nano < 0
  · rw [decide_eq_true h2]
    go_enter Try.func23, Try.ntmps23
    go_wp2
    go_ret
    simp [hB]
  by_cases h3 : 1000000000 ≤ nano
  · rw [decide_eq_true h3]
    go_enter Try.func23, Try.ntmps23
    go_wp2
    go_ret
    simp [hB]
  · rw [decide_eq_false h0, decide_eq_false h1, decide_eq_false h2, decide_eq_false h3]
    go_enter Try.func23, Try.ntmps23
    go_wp2
    go_ret
    exact ⟨rfl, hB⟩
end Go.Proofs.Ytlobddhpkemklaa
