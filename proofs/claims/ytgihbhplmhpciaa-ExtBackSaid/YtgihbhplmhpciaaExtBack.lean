/- ExtBack: fields and an authenticator that were written are read back.
  SEATS: ext -/
import Derived.Test.YtgihbhplmhpciaaExtAppends
import Derived.Test.YtgihbhplmhpciaaPlain20
import Derived.Test.YtgihbhplmhpciaaSame
namespace Go.Proofs.Ytgihbhplmhpciaa
open Go.RowKit
set_option linter.unusedVariables false

/-- A list of bytes keeps what it shows when another row, known before it was made, is added to. -/
theorem own_kept {w w' : World} {base n c m : Nat} {A : Option Addr} {bs : List UInt8} {v : Value} (h : OwnB w base A n c bs) (hg : w.grownBy w' v.ownBlock) (hv : ∀ k, v.ownBlock = some k → m ≤ k ∧ k < base) : OwnB w' base A n c bs := by
  refine World.ownsRow.kept h hg ?_
  cases hA : (Value.slice A n c).ownBlock with
  | none => exact .inl rfl
  | some k =>
    refine .inr fun he => ?_
    have h1 := own_base h k hA
    have h2 := hv k he.symm
    omega

set_option maxHeartbeats 2000000 in
theorem extBack_any (D : Option Addr) (n d : Nat) (l : List Ext) (k t : Int) (b : Bool) (w : World) (hl : RE w D n d l) (hk : 0 ≤ k ∧ k ≤ 4294967295) (ht : 0 ≤ t ∧ t ≤ 18446744073709551615) :
    Calls Try.prog 8 #[.slice D n d, .int .u32 k, .int .u64 t, .bool b] w fun e w' => e = .returned (.bool true) ∧ Below w.heap.size w w' := by
  obtain ⟨hk0, hk1⟩ := hk
  obtain ⟨ht0, ht1⟩ := ht
  obtain ⟨K, rfl⟩ := Int.eq_ofNat_of_zero_le hk0
  obtain ⟨T, rfl⟩ := Int.eq_ofNat_of_zero_le ht0
  by_cases hf : fewB l = false
  · go_enter Try.func8, Try.ntmps8
    go_wp2_with (first
      | (go_at_call 9; refine (few_any D n d l _ hl).mono ?_; rintro e w1 ⟨rfl, hB1⟩)
      | (go_at_call 10; refine (awake20 _).mono ?_; rintro e w2 ⟨rfl, hB2⟩))
    go_ret
    exact ⟨rfl, below_step hB1 hB2 hB1.size⟩
  have hf : fewB l = true := by simpa using hf
  by_cases he : appendErr l = 0
  · have He := hide he
    have Hs := hide (auth_split K T (by omega) (by omega))
    clear he
    go_enter Try.func8, Try.ntmps8
    go_wp2_with (first
      | (go_at_call 9; refine (few_any D n d l _ hl).mono ?_; rintro e w1 ⟨rfl, hB1⟩))
    refine (append_ok none 0 0 [] D n d l _ (RB.nil _) (hl.below hB1) (by omega) He.out).mono ?_
    rintro e w2 ⟨A2, n2, c2, rfl, hown2, hB2⟩
    have hBw2 : Below w.heap.size w w2 := below_step hB1 hB2 hB1.size
    have hown2 := (hown2.mono hB1.size).cast (List.nil_append _)
    have Hn2 := hide (show n2 ≤ 4160 by
      have h1 := hown2.len
      have h2 := append_zero He.out
      have h3 := flat_le l h2.2
      omega)
    have Hlt := hide (World.ownsRow.lt hown2)
    clear hB1 hB2
    go_wp2_with fail
    refine (auth_any K T _ (by omega) (by omega)).mono ?_
    rintro e w3 ⟨A3, n3, c3, rfl, hown3, hB3⟩
    have hBw3 : Below w.heap.size w w3 := below_step hBw2 hB3 hBw2.size
    have hown2 := hown2.below hB3
    rw [Int.toNat_natCast, Int.toNat_natCast] at hown3
    have hr3 := hown3.rb
    obtain rfl : n3 = 12 := by rw [← hr3.len]; simp [be_length]
    clear hB3 hBw2
    go_wp2_with fail
    refine (split_any A3 c3 _ _ hr3).mono ?_
    rintro e w4 ⟨rfl, hB4⟩
    have hBw4 : Below w.heap.size w w4 := below_step hBw3 hB4 hBw3.size
    have hown2 := hown2.below hB4
    have hr3 := hr3.below hB4
    have hown3 := hown3.below hB4
    rw [Hs.out.1, Hs.out.2]
    clear hB4 hBw3
    cases b with
    | true =>
      have Hp := hide (parse_both l (be K 4 ++ be T 8) He.out (.inr (by simp [be_length])))
      go_wp2_with (refine append_bytes rfl (.tmp 64) (.tmp 65) rfl A2 n2 c2 _ A3 12 c3 _ rfl rfl w.heap.size w hown2 hr3 (by have := Hn2.out; omega) hBw4 hBw4.size ?_; intro A5 n5 c5 w5 hown5 hn5 hBw5 hg5 hat5)
      have hr3 := (own_kept hown3 hg5 Hlt.out).rb
      have hr5 := hown5.rb
      refine (parse_any A5 n5 c5 _ _ hr5 (by have := Hn2.out; have := hn5.out; omega)).mono ?_
      rintro e w6 ⟨wa, D6, n6, d6, A6, m6, c6, rfl, hE6, hBa, hO6, hB6⟩
      rw [Hp.out] at hE6 hO6 ⊢
      have hr3 := (hr3.below hBa).below hB6
      have hBw6 : Below w.heap.size w w6 := below_step (below_step hBw5 hBa hBw5.size) hB6 (by have := hBa.size; have := hBw5.size; omega)
      have hE6 := (hE6.below hB6).re
      have hO6 := hO6.rb
      obtain rfl : n6 = n := hE6.len.symm.trans hl.len
      clear hBa hB6 hBw5 hown3
      go_wp2_with fail
      refine (same_any D n6 d D6 d6 l _ (hl.below hBw6) hE6).mono ?_
      rintro e w7 ⟨rfl, q, rfl⟩
      have hBq := below_drewN w6 q
      have hO6 := hO6.below hBq
      have hr3 := hr3.below hBq
      have hBw7 := below_step hBw6 hBq hBw6.size
      clear hBq hE6
      go_wp2_with fail
      refine (equal_any _ _ _ _ _ _ _ _ _ hO6 hr3).mono ?_
      rintro e w' ⟨rfl, rfl⟩
      rw [beq_self_eq_true]
      go_wp2_with (go_at_call 10; refine (awake20 _).mono ?_; rintro e w8 ⟨rfl, hB8⟩)
      go_ret
      exact ⟨rfl, below_step hBw7 hB8 hBw7.size⟩
    | false =>
      have Hp := hide (parse_both l [] He.out (.inl rfl))
      go_wp2_with (refine append_bytes rfl (.tmp 64) (.tmp 65) rfl A2 n2 c2 _ none 0 0 _ rfl rfl w.heap.size w hown2 (RB.nil _) (by have := Hn2.out; omega) hBw4 hBw4.size ?_; intro A5 n5 c5 w5 hown5 hn5 hBw5 _ _)
      have hr5 := (hown5.cast (by rw [List.append_nil])).rb
      refine (parse_any A5 n5 c5 (l.flatMap fieldBytes) _ hr5 (by have := Hn2.out; have := hn5.out; omega)).mono ?_
      rintro e w6 ⟨wa, D6, n6, d6, A6, m6, c6, rfl, hE6, hBa, hO6, hB6⟩
      rw [← List.append_nil (l.flatMap fieldBytes), Hp.out] at hE6 hO6 ⊢
      have hBw6 : Below w.heap.size w w6 := below_step (below_step hBw5 hBa hBw5.size) hB6 (by have := hBa.size; have := hBw5.size; omega)
      have hE6 := (hE6.below hB6).re
      have hO6 := hO6.rb
      obtain rfl : n6 = n := hE6.len.symm.trans hl.len
      clear hBa hB6 hBw5
      go_wp2_with fail
      refine (same_any D n6 d D6 d6 l _ (hl.below hBw6) hE6).mono ?_
      rintro e w7 ⟨rfl, q, rfl⟩
      have hBq := below_drewN w6 q
      have hO6 := hO6.below hBq
      have hBw7 := below_step hBw6 hBq hBw6.size
      clear hBq hE6
      go_wp2_with fail
      refine (equal_any _ _ _ _ _ _ _ _ _ hO6 (RB.nil _)).mono ?_
      rintro e w' ⟨rfl, rfl⟩
      rw [beq_self_eq_true]
      go_wp2_with (go_at_call 10; refine (awake20 _).mono ?_; rintro e w8 ⟨rfl, hB8⟩)
      go_ret
      exact ⟨rfl, below_step hBw7 hB8 hBw7.size⟩
  · have He := hide he
    clear he
    generalize hE : appendErr l = E at He
    have HE := hide hE
    clear hE
    have hE0 : (E != 0) = true := by simpa using He.out
    go_enter Try.func8, Try.ntmps8
    go_wp2_with (first
      | (go_at_call 9; refine (few_any D n d l _ hl).mono ?_; rintro e w1 ⟨rfl, hB1⟩))
    refine (append_err none 0 0 D n d l _ (hl.below hB1) (by rw [HE.out]; exact He.out)).mono ?_
    rintro e w2 ⟨rfl, hB2⟩
    rw [HE.out]
    have hBw2 : Below w.heap.size w w2 := below_step hB1 hB2 hB1.size
    go_wp2_with (go_at_call 10; refine (awake20 _).mono ?_; rintro e w8 ⟨rfl, hB8⟩)
    go_ret
    exact ⟨rfl, below_step hBw2 hB8 hBw2.size⟩
end Go.Proofs.Ytgihbhplmhpciaa
