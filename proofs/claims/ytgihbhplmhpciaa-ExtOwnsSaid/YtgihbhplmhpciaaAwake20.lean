/- The examples of chapter 20 hold; few.
  SEATS: ext -/
import Derived.Test.YtgihbhplmhpciaaRepeat
import Derived.Test.YtgihbhplmhpciaaBytes
import Derived.Test.YtgihbhplmhpciaaAuth
import Derived.Test.YtgihbhplmhpciaaParse
namespace Go.Proofs.Ytgihbhplmhpciaa
open Go.RowKit
set_option linter.unusedVariables false

/-- One field, in a block of its own. -/
theorem RE.of_blk {w : World} {g : Nat} {k : Int} {A : Option Addr} {m c : Nat} {bs : List UInt8} (h : Blk w g 27 [.int .i64 k, .slice A m c]) (hr : RB w A m c bs) (hk : -9223372036854775808 ≤ k ∧ k ≤ 9223372036854775807) :
    RE w (some ⟨g, 0, none⟩) 1 1 [⟨k, bs⟩] := by
  refine ⟨rfl, Nat.le_refl _, by omega, fun _ => ⟨g, 0, _, rfl, h.lt, ⟨rfl, fun j e he => ?_⟩, fun i u hu => by rw [h.cell, Nat.zero_add]; exact hu⟩⟩
  have hj : j < 1 := (List.getElem?_eq_some_iff.1 he).1
  obtain rfl : j = 0 := by omega
  injection he with he
  subst he
  exact ⟨hk, rfl, A, m, c, rfl, hr⟩

theorem RB.take_ {w : World} {A : Option Addr} {m c : Nat} {r : List UInt8} (h : RB w A m c r) (k : Nat) (hk : k ≤ m) : RB w A k c (r.take k) := by
  have := h.sub_ 0 k (by omega) A c (fun _ b o e => e) (by have := h.cap; omega) (Nat.le_refl _)
  simpa [sub] using this

theorem p20_a : parse (List.replicate 12 7) = ⟨[], List.replicate 12 7, 0⟩ := by kernel_rfl
theorem p20_b : parse ((List.replicate 12 7).take 4) = ⟨[], [], 5⟩ := by kernel_rfl
theorem p20_c : parse (List.replicate 16 0) = ⟨[], [], 7⟩ := by kernel_rfl
theorem p20_d : appendErr [⟨260, List.replicate 12 7⟩] = 0 := by kernel_rfl
theorem p20_e : ([] : List UInt8) ++ [Ext.mk 260 (List.replicate 12 7)].flatMap fieldBytes = [1, 4, 0, 16] ++ List.replicate 12 7 := by kernel_rfl
theorem p20_f : be 1 4 ++ be 2 8 = [0, 0, 0, 1, 0, 0, 0, 0, 0, 0, 0, 2] := by kernel_rfl

set_option maxHeartbeats 1000000 in
theorem awake20 (w : World) : Calls Try.prog 10 #[] w fun e w' => e = .returned (.bool true) ∧ Below w.heap.size w w' := by
  go_enter Try.func10, Try.ntmps10
  go_wp2_with fail
  refine (repeat_any _ _ 7 _ ((Blk.new w 5 (BV [7])).rb rfl (Nat.le_refl _) (by omega))).mono ?_
  rintro e w1 ⟨A1, rfl, hr1, hB1⟩
  have hz1 := hB1.size
  simp only [World.size_alloc] at hz1
  have hBw1 : Below w.heap.size w w1 := below_step ((Below.refl _ w).alloc (Nat.le_refl _) _) hB1 (by simp)
  clear hB1
  generalize hD : List.replicate 12 (7 : UInt8) = D at hr1
  have HD := hide hD
  clear hD
  have HP1 := hide (show parse D = ⟨[], D, 0⟩ by rw [← HD.out]; exact p20_a)
  have HP2 := hide (show parse (D.take 4) = ⟨[], [], 5⟩ by rw [← HD.out]; exact p20_b)
  have HP3 := hide (show parse (List.replicate 16 0) = ⟨[], [], 7⟩ from p20_c)
  have HF := hide (show appendErr [⟨260, D⟩] = 0 by rw [← HD.out]; exact p20_d)
  have HB := hide (show ([] : List UInt8) ++ [Ext.mk 260 D].flatMap fieldBytes = [1, 4, 0, 16] ++ D by rw [← HD.out]; exact p20_e)
  go_wp2_with fail
  refine (append_ok none 0 0 [] _ 1 1 [⟨260, D⟩] _ (RB.nil _) (RE.of_blk (Blk.new w1 _ _) (hr1.alloc _) (by omega)) (by omega) HF.out).mono ?_
  rintro e w2 ⟨A2, n2, c2, rfl, hown2, hB2⟩
  have hBw2 : Below w.heap.size w w2 := below_step (hBw1.alloc hBw1.size _) hB2 (by simp; omega)
  have hr2 : RB w2 A1 12 12 D := (hr1.alloc _).below hB2
  have hown2 := hown2.cast HB.out
  clear hB2 hBw1 hr1 hz1
  go_wp2_with fail
  refine (parse_any A1 12 12 D _ hr2 (by omega)).mono ?_
  rintro e w3 ⟨wa, D3, n3, d3, A3, m3, c3, rfl, hE3, hBa, hO3, hB3⟩
  have hBw3 : Below w.heap.size w w3 := below_step (below_step hBw2 hBa hBw2.size) hB3 (by have := hBa.size; have := hBw2.size; omega)
  have hr3 : RB w3 A1 12 12 D := (hr2.below hBa).below hB3
  have hown3 := (hown2.below hBa).below hB3
  rw [HP1.out] at hE3 hO3
  rw [show (parse D).err = 0 from congrArg Parsed.err HP1.out]
  obtain rfl : n3 = 0 := hE3.len.symm
  clear hBa hB3 hBw2 hr2 hown2 hE3
  go_wp2_with fail
  refine (parse_any A1 4 12 (D.take 4) _ (hr3.take_ 4 (by omega)) (by omega)).mono ?_
  rintro e w4 ⟨wb, D4, n4, d4, A4, m4, c4, rfl, hE4, hBb, hO4, hB4⟩
  have hBw4 : Below w.heap.size w w4 := below_step (below_step hBw3 hBb hBw3.size) hB4 (by have := hBb.size; have := hBw3.size; omega)
  have hr4 : RB w4 A1 12 12 D := (hr3.below hBb).below hB4
  have hown4 := (hown3.below hBb).below hB4
  have hO4' := (hO3.below hBb).below hB4
  rw [show (parse (D.take 4)).err = 5 from congrArg Parsed.err HP2.out]
  clear hBb hB4 hBw3 hr3 hown3 hO3 hE4 hO4
  go_wp2_with (refine make_bytes rfl (.const (.int .i64 16)) rfl 16 16 rfl rfl (by omega) w.heap.size w hBw4 hBw4.size ?_; intro w5 hb5 hBw5 hB5 hz5)
  have hr5 : RB w5 A1 12 12 D := hr4.below hB5
  have hown5 := hown4.below hB5
  have hO5 := hO4'.below hB5
  clear hBw4 hr4 hown4 hO4' hB5
  refine (parse_any _ 16 16 (List.replicate 16 0) _ (Blk.rb (bs := List.replicate 16 0) hb5 rfl (Nat.le_refl _) (by omega)) (by omega)).mono ?_
  rintro e w6 ⟨wc, D6, n6, d6, A6, m6, c6, rfl, hE6, hBc, hO6, hB6⟩
  have hBw6 : Below w.heap.size w w6 := below_step (below_step hBw5 hBc hBw5.size) hB6 (by have := hBc.size; have := hBw5.size; omega)
  have hr6 : RB w6 A1 12 12 D := (hr5.below hBc).below hB6
  have hown6 := (hown5.below hBc).below hB6
  have hO6' := (hO5.below hBc).below hB6
  rw [show (parse (List.replicate 16 0)).err = 7 from congrArg Parsed.err HP3.out]
  clear hBc hB6 hBw5 hr5 hown5 hO5 hE6 hO6 hb5 hz5 HP1 HP2 HP3 HF HB
  go_wp2_with (refine append_bytes rfl (.tmp 42) (.tmp 43) rfl _ 4 4 [1, 4, 0, 16] A1 12 12 D rfl rfl w6.heap.size w6 (OwnB.of_blk (Blk.new w6 _ (BV [1, 4, 0, 16])) rfl (Nat.le_refl _) (by omega)) (hr6.alloc _) (by omega) ((Below.refl _ _).alloc (Nat.le_refl _) _) (by simp) ?_; intro A7 n7 c7 w7 hown7 hn7 hBc _ _)
  have hBw7 : Below w.heap.size w w7 := below_step hBw6 hBc hBw6.size
  have hr7 := hr6.below hBc
  have ha7 := hown6.below hBc
  have hb7 := hO6'.below hBc
  clear hBw6 hr6 hown6 hO6' hBc
  refine (equal_any _ _ _ _ _ _ _ _ _ ha7.rb hown7.rb).mono ?_
  rintro e w' ⟨rfl, rfl⟩
  rw [beq_self_eq_true]
  go_wp2_with fail
  refine (equal_any _ _ _ _ _ _ _ _ _ hb7.rb hr7).mono ?_
  rintro e w' ⟨rfl, rfl⟩
  rw [beq_self_eq_true]
  go_wp2_with fail
  refine (auth_any 1 2 _ (by omega) (by omega)).mono ?_
  rintro e w8 ⟨A8, n8, c8, rfl, hown8, hB8⟩
  have hBw8 : Below w.heap.size w w8 := below_step hBw7 hB8 hBw7.size
  have hr8 : RB w8 A8 n8 c8 [0, 0, 0, 1, 0, 0, 0, 0, 0, 0, 0, 2] := (hown8.cast p20_f).rb
  clear hBw7 hr7 ha7 hb7 hown7 hown8 hB8
  go_wp2_with fail
  refine (equal_any _ _ _ _ _ _ _ _ _ (hr8.alloc _) (Blk.rb (bs := [0, 0, 0, 1, 0, 0, 0, 0, 0, 0, 0, 2]) (Blk.new w8 _ (BV [0, 0, 0, 1, 0, 0, 0, 0, 0, 0, 0, 2])) rfl (Nat.le_refl _) (by decide))).mono ?_
  rintro e w' ⟨rfl, rfl⟩
  rw [beq_self_eq_true]
  go_wp2
  go_ret
  exact ⟨rfl, hBw8.alloc hBw8.size _⟩
end Go.Proofs.Ytgihbhplmhpciaa
