/- CookieNobody.
  SEATS: cookie -/
import Derived.Test.YtdgjbaeflbggpaaAwake44
namespace Go.Proofs.Ytdgjbaeflbggpaa
open Go.RowKit
set_option linter.unusedVariables false

set_option maxHeartbeats 1000000 in
theorem cookieNobody_any (a b c d nonce : Int) (A : Option Addr) (m cp : Nat) (bs : List UInt8) (w : World) (ha : 0 ≤ a ∧ a ≤ 18446744073709551615) (hb : 0 ≤ b ∧ b ≤ 18446744073709551615) (hc : 0 ≤ c ∧ c ≤ 18446744073709551615) (hd : 0 ≤ d ∧ d ≤ 18446744073709551615) (hn : 0 ≤ nonce ∧ nonce ≤ 18446744073709551615) (hr : RB w A m cp bs) :
    Calls Try.prog 7 #[.agg #[.int .u64 a, .int .u64 b], .agg #[.int .u64 c, .int .u64 d], .int .u64 nonce, .slice A m cp] w fun e w' => e = .returned (.bool true) ∧ Below w.heap.size w w' := by
  have z0 : ∀ w, (Go.binOp .eql 24 (.agg #[.int .u64 0, .int .u64 0]) (.agg #[.int .u64 0, .int .u64 0])).run Try.prog w = .ok (.bool true) w := fun _ => by kernel_rfl
  have hT := two_keys w (.int .u64 a) (.int .u64 b) (.int .u64 c) (.int .u64 d)
  go_enter Try.func7, Try.ntmps7
  go_wp2_with fail
  refine (open_nil A m cp bs _ (hr.below hT.2.2)).mono ?_
  rintro e w1 ⟨rfl, hB1⟩
  unfold zero2
  have hX := two_keys w1 (.int .u64 0) (.int .u64 0) (.int .u64 0) (.int .u64 0)
  have hW1 := below_step hT.2.2 hB1 hT.2.2.size
  have ka := (hT.1.below' hB1).below' hX.2.2
  have kb := (hT.2.1.below' hB1).below' hX.2.2
  have hW2 := below_step hW1 hX.2.2 hW1.size
  have k0 := ka.cell 0
  have k1 := ka.cell 1
  have k2 := kb.cell 0
  have k3 := kb.cell 1
  have k4 := hX.1.cell 0
  have k5 := hX.1.cell 1
  have k6 := hX.2.1.cell 0
  have k7 := hX.2.1.cell 1
  simp only [List.getElem?_cons_zero, List.getElem?_cons_succ] at k0 k1 k2 k3 k4 k5 k6 k7
  clear hT hB1 hW1 ka kb
  go_wp2_with (go_at_call 19; refine (rotate_nil _).mono ?_; rintro e w2 ⟨rfl, rfl⟩)
  refine (seal_nil _ _ _ a b c d rfl rfl _).mono ?_
  rintro e w3 ⟨rfl, hB3⟩
  have m4 := cell_keep hB3 k4
  have m5 := cell_keep hB3 k5
  have m6 := cell_keep hB3 k6
  have m7 := cell_keep hB3 k7
  have hW3 := below_step hW2 hB3 hW2.size
  clear k0 k1 k2 k3 k4 k5 k6 k7 hX hW2 hB3
  go_wp2_with (first
    | (go_at_call 13; refine (gen_nil _).mono ?_; rintro e w4 ⟨rfl, rfl⟩)
    | (go_at_call 15; refine (awake44 _).mono ?_; rintro e w5 ⟨rfl, hB5⟩))
  go_ret
  exact ⟨rfl, below_step hW3 hB5 hW3.size⟩
end Go.Proofs.Ytdgjbaeflbggpaa
