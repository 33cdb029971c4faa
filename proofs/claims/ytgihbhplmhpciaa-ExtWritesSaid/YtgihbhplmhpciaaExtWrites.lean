/- ExtWrites: what Parse reads is written by Append as the same bytes, followed by the authenticator.
  SEATS: ext -/
import Derived.Test.YtgihbhplmhpciaaAwake20
import Derived.Test.YtgihbhplmhpciaaPlain20
namespace Go.Proofs.Ytgihbhplmhpciaa
open Go.RowKit
set_option linter.unusedVariables false

set_option maxHeartbeats 1000000 in
theorem extWrites_any (A : Option Addr) (m c : Nat) (bs : List UInt8) (w : World) (hb : RB w A m c bs) :
    Calls Try.prog 5 #[.slice A m c] w fun e w' => e = .returned (.bool true) ∧ Below w.heap.size w w' := by
  have hbc := hb.cap
  have hbm := hb.max
  by_cases hm : 6000 < m
  · go_enter Try.func5, Try.ntmps5
    go_wp2_with (go_at_call 10; refine (awake20 _).mono ?_; rintro e w2 ⟨rfl, hB2⟩)
    go_ret
    exact ⟨rfl, hB2⟩
  by_cases he : (parse bs).err = 0
  · have Hw := hide (parse_writes bs he)
    have He := hide he
    clear he
    go_enter Try.func5, Try.ntmps5
    go_wp2_with fail
    refine (parse_any A m c bs _ hb (by omega)).mono ?_
    rintro e w1 ⟨wa, D1, n1, d1, A1, m1, c1, rfl, hE1, hBa, hO1, hB1⟩
    have hBw1 : Below w.heap.size w w1 := below_step hBa hB1 hBa.size
    have hE1 := (hE1.below hB1).re
    have hO1 := hO1.rb
    have hb1 := (hb.below hBa).below hB1
    rw [He.out]
    clear hBa hB1
    have Hm1 := hide (show m1 ≤ m by
      have h1 := congrArg List.length Hw.out.2
      rw [List.length_append, hO1.len, hb.len] at h1
      omega)
    go_wp2_with fail
    refine (append_ok none 0 0 [] D1 n1 d1 (parse bs).l _ (RB.nil _) hE1 (by omega) Hw.out.1).mono ?_
    rintro e w2 ⟨A2, n2, c2, rfl, hown2, hB2⟩
    have hBw2 : Below w.heap.size w w2 := below_step hBw1 hB2 hBw1.size
    have hO2 := hO1.below hB2
    have hb2 := hb1.below hB2
    have Hm2 := hide (show n2 ≤ m by
      have h1 := congrArg List.length Hw.out.2
      have h2 := hown2.len
      rw [List.nil_append] at h2
      rw [List.length_append, h2, hb.len] at h1
      omega)
    clear hO1 hb1
    go_wp2_with (refine append_bytes rfl (.tmp 39) (.tmp 40) rfl A2 n2 c2 _ A1 m1 c1 _ rfl rfl w.heap.size w (hown2.mono hBw1.size) hO2 (by have := Hm1.out; have := Hm2.out; omega) hBw2 hBw2.size ?_; intro A3 n3 c3 w3 hown3 _ hBw3 hg3 _)
    refine (equal_any _ _ _ bs _ _ _ bs _ (hown3.cast (by rw [List.nil_append]; exact Hw.out.2)).rb (hb.below hBw3)).mono ?_
    rintro e w' ⟨rfl, rfl⟩
    rw [beq_self_eq_true]
    go_wp2_with (go_at_call 10; refine (awake20 _).mono ?_; rintro e w4 ⟨rfl, hB4⟩)
    go_ret
    exact ⟨rfl, below_step hBw3 hB4 hBw3.size⟩
  · have Hf := hide (parse_fail (bs.length + 1) [] bs he)
    have He := hide he
    clear he
    generalize hE : (parse bs).err = E at He
    have HE := hide hE
    clear hE
    go_enter Try.func5, Try.ntmps5
    go_wp2_with fail
    refine (parse_any A m c bs _ hb (by omega)).mono ?_
    rintro e w1 ⟨wa, D1, n1, d1, A1, m1, c1, rfl, hE1, hBa, hO1, hB1⟩
    have hBw1 : Below w.heap.size w w1 := below_step hBa hB1 hBa.size
    rw [HE.out]
    obtain rfl : n1 = 0 := by rw [← hE1.len]; exact congrArg List.length Hf.out.1
    obtain rfl : m1 = 0 := by rw [← hO1.len]; exact congrArg List.length Hf.out.2
    have hE0 : (E != 0) = true := by simpa using He.out
    clear hE1 hO1 hBa hB1
    go_wp2_with (go_at_call 10; refine (awake20 _).mono ?_; rintro e w4 ⟨rfl, hB4⟩)
    go_ret
    exact ⟨rfl, below_step hBw1 hB4 hBw1.size⟩
end Go.Proofs.Ytgihbhplmhpciaa
