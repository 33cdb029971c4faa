/- ext.Auth; ext.Split. -/
import Derived.Test.YtgihbhplmhpciaaExt
import Derived.Outline
namespace Go.Proofs.Ytgihbhplmhpciaa
open Go.RowKit
set_option linter.unusedVariables false

theorem auth_any (k t : Int) (w : World) (hk : 0 ≤ k ∧ k < 4294967296) (ht : 0 ≤ t ∧ t < 18446744073709551616) :
    Calls Try.prog 22 #[.int .u32 k, .int .u64 t] w fun e w' => ∃ A n c, e = .returned (.slice A n c) ∧ OwnB w' w.heap.size A n c (be k.toNat 4 ++ be t.toNat 8) ∧ Below w.heap.size w w' := by
  obtain ⟨hk0, hk1⟩ := hk
  obtain ⟨ht0, ht1⟩ := ht
  have H4 := hide (show k < 256 ^ (Int.toNat 4) from hk1)
  have H8 := hide (show t < 256 ^ (Int.toNat 8) from ht1)
  go_enter Try.func22, Try.ntmps22
  go_wp2_with fail
  refine (append_any none 0 0 [] _ _ _ (RB.nil _) (by omega) (by omega) hk0 H4.out (by omega)).mono ?_
  rintro e w1 ⟨A1, n1, c1, rfl, hown1, hB1⟩
  have hn1 : n1 = 4 := by rw [← hown1.len]; simp [be_length]
  have Hn1 := hide hn1
  have hn1' : n1 ≤ 4 := by omega
  clear hn1
  go_wp2_with fail
  refine (append_any A1 n1 c1 _ _ _ _ hown1.rb (by omega) (by omega) ht0 H8.out (by omega)).mono ?_
  rintro e w2 ⟨A2, n2, c2, rfl, hown2, hB2⟩
  go_wp2
  go_ret
  exact ⟨_, _, _, rfl, (hown2.mono hB1.size).cast (by simp), below_step hB1 hB2 hB1.size⟩

set_option maxHeartbeats 400000 in
theorem split_any (A : Option Addr) (c : Nat) (bs : List UInt8) (w : World) (h : RB w A 12 c bs) :
    Calls Try.prog 24 #[.slice A 12 c] w fun e w' => e = .returned (.tuple #[.int .u32 (ofBe (sub bs 0 4) : Nat), .int .u64 (ofBe (sub bs 4 8) : Nat), .int .i64 0]) ∧ Below w.heap.size w w' := by
  have Hl := hide h.len
  have hK := ofBe_le (l := sub bs 0 4) (k := 4) (by rw [sub_length bs 0 4 (by have := Hl.out; omega)]; omega)
  generalize hKK : ofBe (sub bs 0 4) = K at *
  have HKK := hide hKK
  clear hKK
  have hK2 : (K : Int) < 4294967296 := by omega
  clear hK
  go_enter Try.func24, Try.ntmps24
  go_wp2_with fail
  refine (newReader_any A 12 c bs _ h (by omega)).mono ?_
  rintro e w1 ⟨g, hh, rfl, hr1, hg, hhh, hB1⟩
  go_wp2_with fail
  refine (uint_any g hh bs 0 4 _ hr1 (by omega) (by omega) (by have := Hl.out; omega)).mono ?_
  rintro e w2 ⟨rfl, hr2, hg2⟩
  have hB2 : Below w.heap.size w w2 := hB1.grown hg2 hB1.size (fun k hk => by injection hk with hk; omega)
  rw [show Int.toNat 4 = 4 from rfl, HKK.out]
  rw [show 0 + Int.toNat 4 = 4 from rfl] at hr2
  clear hr1 hg2
  go_wp2_with fail
  refine (uint_any g hh bs 4 8 _ hr2 (by omega) (by omega) (by have := Hl.out; omega)).mono ?_
  rintro e w3 ⟨rfl, hr3, hg3⟩
  have hB3 : Below w.heap.size w w3 := hB2.grown hg3 hB2.size (fun k hk => by injection hk with hk; omega)
  rw [show Int.toNat 8 = 8 from rfl]
  clear hr2 hr3 hg3
  go_wp2
  go_ret3
  exact ⟨rfl, hB3⟩
end Go.Proofs.Ytgihbhplmhpciaa
