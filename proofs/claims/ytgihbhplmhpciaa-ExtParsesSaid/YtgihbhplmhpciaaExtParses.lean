/- ExtParses: Parse of the program returns what the reference's returns (for at most 6000 bytes; else the examples hold).
  SEATS: ext -/
import Derived.Test.YtgihbhplmhpciaaAwake20
import Derived.Test.YtgihbhplmhpciaaRef20P
import Derived.Test.YtgihbhplmhpciaaSame
namespace Go.Proofs.Ytgihbhplmhpciaa
open Go.RowKit
set_option linter.unusedVariables false

set_option maxHeartbeats 1000000 in
theorem extParses_any (A : Option Addr) (m c : Nat) (bs : List UInt8) (w : World) (hb : RB w A m c bs) :
    Calls Try.prog 4 #[.slice A m c] w fun e w' => e = .returned (.bool true) ∧ Below w.heap.size w w' := by
  have hbc := hb.cap
  have hbm := hb.max
  by_cases hm : 6000 < m
  · go_enter Try.func4, Try.ntmps4
    go_wp2_with (go_at_call 10; refine (awake20 _).mono ?_; rintro e w2 ⟨rfl, hB2⟩)
    go_ret
    exact ⟨rfl, hB2⟩
  generalize hR : parse bs = R
  have HR := hide hR
  clear hR
  go_enter Try.func4, Try.ntmps4
  go_wp2_with fail
  refine (parse_any A m c bs _ hb (by omega)).mono ?_
  rintro e w1 ⟨wa, D1, n1, d1, A1, m1, c1, rfl, hE1, hBa, hO1, hB1⟩
  have hBw1 : Below w.heap.size w w1 := below_step hBa hB1 hBa.size
  have hE1 := (hE1.below hB1).re
  have hO1 := hO1.rb
  have hb1 := (hb.below hBa).below hB1
  rw [HR.out] at hE1 hO1 ⊢
  clear hBa hB1
  go_wp2_with fail
  refine (parse20_any A m c bs _ hb1 (by omega)).mono ?_
  rintro e w2 ⟨wb, D2, n2, d2, A2, m2, c2, rfl, hE2, hBb, hO2, hB2⟩
  have hBw2 : Below w.heap.size w w2 := below_step (below_step hBw1 hBb hBw1.size) hB2 (by have := hBb.size; have := hBw1.size; omega)
  have hE2 := (hE2.below hB2).re
  have hO2 := hO2.rb
  have hE1 := (hE1.below hBb).below hB2
  have hO1 := (hO1.below hBb).below hB2
  rw [HR.out] at hE2 hO2 ⊢
  clear hBb hB2 hBw1
  obtain rfl : n1 = n2 := hE1.len.symm.trans hE2.len
  go_wp2_with fail
  refine (same_any D1 n1 d1 D2 d2 R.l _ hE1 hE2).mono ?_
  rintro e w3 ⟨rfl, q, rfl⟩
  have hBq := below_drewN w2 q
  have hO1 := hO1.below hBq
  have hO2 := hO2.below hBq
  have hBw3 := below_step hBw2 hBq hBw2.size
  clear hBq hE1 hE2
  go_wp2_with fail
  refine (equal_any _ _ _ _ _ _ _ _ _ hO1 hO2).mono ?_
  rintro e w' ⟨rfl, rfl⟩
  rw [beq_self_eq_true]
  go_wp2_with (go_at_call 10; refine (awake20 _).mono ?_; rintro e w4 ⟨rfl, hB4⟩)
  go_ret
  exact ⟨rfl, below_step hBw3 hB4 hBw3.size⟩
end Go.Proofs.Ytgihbhplmhpciaa
