/- PtpmsgEncodes: Encode returns the specified bytes or the error.
  SEATS: ptp -/
import Derived.Test.YtlobddhpkemklaaPtpmsgDiffers
import Derived.Test.YtlobddhpkemklaaRefN
namespace Go.Proofs.Ytlobddhpkemklaa
open Go.RowKit
set_option linter.unusedVariables false

theorem both_end (p : Ptp) (hin : p.In) : ∃ bs : List UInt8, (∀ w, Calls Try.prog 14 #[.agg p.cells.toArray] w fun e w' => ∃ A n c, e = .returned (.tuple #[.slice A n c, .int .i64 (ptpCheck p)]) ∧ RB w' A n c bs ∧ Below w.heap.size w w')
    ∧ (∀ w, Calls Try.prog 15 #[.agg p.cells.toArray] w fun e w' => ∃ A n c, e = .returned (.tuple #[.slice A n c, .int .i64 (ptpCheck p)]) ∧ RB w' A n c bs ∧ Below w.heap.size w w') := by
  by_cases h : ptpCheck p = 0
  · refine ⟨ptpBytes p, fun w => (ptpEncode_ok p w hin h).mono ?_, fun w => (refEncode_ok p w hin h).mono ?_⟩
    · rintro e w' ⟨A, n, c, rfl, ho, hb⟩
      exact ⟨A, n, c, by rw [h], ho.rb, hb⟩
    · rintro e w' ⟨A, n, c, rfl, ho, hb⟩
      exact ⟨A, n, c, by rw [h], ho.rb, hb⟩
  · refine ⟨[], fun w => (ptpEncode_err p w hin.kind h).mono ?_, fun w => (refEncode_err p w h).mono ?_⟩
    · rintro e w' ⟨rfl, hb⟩
      exact ⟨none, 0, 0, rfl, RB.nil _, hb⟩
    · rintro e w' ⟨rfl, hb⟩
      exact ⟨none, 0, 0, rfl, RB.nil _, hb⟩

set_option maxHeartbeats 4000000 in
theorem ptpmsgEncodes_any (p : Ptp) (w : World) (hp : p.In) :
    Calls Try.prog 4 #[p.val] w fun e w' => e = .returned (.bool true) ∧ Below w.heap.size w w' := by
  obtain ⟨bs, HP, HQ⟩ := both_end p hp
  have HP := hide HP
  have HQ := hide HQ
  have hP : p.val = .agg p.cells.toArray := rfl
  have hi1 := info21' p
  rw [hP]
  have hN := Blk.new w 28 p.cells
  have hW := (Below.refl w.heap.size w).alloc (Nat.le_refl _) (.cells p.cells.toArray 28)
  generalize p.cells = cp at *
  generalize ptpCheck p = r at *
  clear hP
  go_enter Try.func4, Try.ntmps4
  go_wp2_with (refine wpList_load_mid rfl 28 _ rfl _ 0 rfl _ _ (range21 hN) Try.underlying28 rfl hi1 ?_)
  refine (HP.out _).mono ?_
  rintro e w1 ⟨A1, n1, c1, rfl, hr1, hB1⟩
  have hN1 := hN.below' hB1
  have hW1 := below_step hW hB1 hW.size
  clear hN hW hB1 HP
  go_wp2_with (refine wpList_load_mid rfl 28 _ rfl _ 0 rfl _ _ (range21 hN1) Try.underlying28 rfl hi1 ?_)
  refine (HQ.out _).mono ?_
  rintro e w2 ⟨A2, n2, c2, rfl, hr2, hB2⟩
  have hW2 := below_step hW1 hB2 hW1.size
  have hr1 := hr1.below hB2
  clear hN1 hW1 hB2 HQ
  go_wp2_with (first
    | (go_at_call 16; refine (equal_any A1 n1 c1 bs A2 n2 c2 bs w2 hr1 hr2).mono ?_; rintro e w3 ⟨rfl, rfl⟩; rw [beq_self_eq_true])
    | (go_at_call 13; refine (awake33 w2).mono ?_; rintro e w4 ⟨rfl, hB4⟩))
  go_ret
  exact ⟨rfl, below_step hW2 hB4 hW2.size⟩
end Go.Proofs.Ytlobddhpkemklaa
