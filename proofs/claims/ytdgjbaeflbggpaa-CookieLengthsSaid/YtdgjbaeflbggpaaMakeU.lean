/- make([]byte, n) of whatever integer kind; Open of zeros.
  SEATS: cookie guard -/
import Derived.Test.YtdgjbaeflbggpaaCOpen
namespace Go.Proofs.Ytdgjbaeflbggpaa
open Go.RowKit
set_option linter.unusedVariables false

/-- As a fact laid ahead of a walk. -/
theorem run_make_bytes (k : IntKind) (n : Nat) (hn : n ≤ 1000000) (w : World) : (Instr.makeSlice 30 (.int k (n : Int)) (.int k (n : Int))).run Try.prog w = .ok (.slice (some ⟨w.heap.size, 0, none⟩) n n) (w.alloc (.cells (List.replicate n (.int .u8 0)).toArray 5)) := by
  obtain ⟨i, hi, hz, hsz, hby⟩ := info_parts info_u8
  have h1 := run_make (P := Try.prog) w 30 5 i _ Try.underlying30 hi hz k k n n (by omega) (by omega) (by rw [hby]; omega) (by omega)
  have hzc : (Value.int .u8 0).cells = #[.int .u8 0] := rfl
  simp only [Int.toNat_natCast, hzc, hsz, Nat.mul_one] at h1
  rwa [show madeCells #[.int .u8 0] n = (List.replicate n (.int .u8 0)).toArray by rw [← toList_madeCells_one _ n]] at h1

theorem zeros_gen (n : Nat) : ckGen (List.replicate n 0) = 0 := by
  have h : ∀ k, ofBe (List.replicate k 0) = 0 := by
    intro k
    induction k with
    | zero => rfl
    | succ k ih => rw [List.replicate_succ', ofBe_snoc, ih]; rfl
  unfold ckGen sub
  rw [List.drop_zero, List.take_replicate]
  exact h _
end Go.Proofs.Ytdgjbaeflbggpaa
