/- ext.Auth; ext.Split. -/
import Derived.Test.YtgihbhplmhpciaaExt
import Derived.Outline
namespace Go.Proofs.Ytgihbhplmhpciaa
open Go.RowKit
set_option linter.unusedVariables false

theorem auth_any (k t : Int) (w : World) (hk : 0 ≤ k ∧ k < 4294967296) (ht : 0 ≤ t ∧ t < 18446744073709551616) :
    Calls Try.prog 22 #[.int .u32 k, .int .u64 t] w fun e w' => ∃ A n c, e = .returned (.slice A n c) ∧ OwnB w' w.heap.size A n c (be k.toNat 4 ++ be t.toNat 8) ∧ Below w.heap.size w w' := by
  obtain ⟨hk0, hk1⟩ := hk
  obtain ⟨ht0, ht1⟩ := ht
  have H4 := hide (show k < 256 ^ (Int.toNat 4) from hk1)
  have H8 := hide (show t < 256 ^ (Int.toNat 8) from ht1)
  go_enter Try.func22, Try.ntmps22
  go_wp2_with fail
  refine (append_any none 0 0 [] _ _ _ (RB.nil _) (by omega) (by omega) hk0 H4.out (by omega)).mono ?_
  rintro e w1 ⟨A1, n1, c1, rfl, hown1, hB1⟩
  have hn1 : n1 = 4 := by rw [← hown1.len]; simp [be_length]
  have Hn1 := hide hn1
  have hn1' : n1 ≤ 4 := by omega
  clear hn1
  go_wp2_with fail
  refine (append_any A1 n1 c1 _ _ _ _ hown1.rb (by omega) (by omega) ht0 H8.out (by omega)).mono ?_
  rintro e w2 ⟨A2, n2, c2, rfl, hown2, hB2⟩
  go_wp2
  go_ret
  exact ⟨_, _, _, rfl, (hown2.mono hB1.size).cast (by simp), below_step hB1 hB2 hB1.size⟩
end Go.Proofs.Ytgihbhplmhpciaa
