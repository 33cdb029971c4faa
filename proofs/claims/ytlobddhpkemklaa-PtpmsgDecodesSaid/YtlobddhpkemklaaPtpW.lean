/- The writer of messages; the bytes of timestamps.
  SEATS: ptp -/
import Derived.Test.YtlobddhpkemklaaPtpChk
import Derived.Test.YtlobddhpkemklaaWire
import Derived.Deep.RegionLaw
import Derived.Deep.RegionHeld3
import Derived.IntWalk
namespace Go.Proofs.Ytlobddhpkemklaa
open Go.RowKit
set_option linter.unusedVariables false

theorem cell_lt {w : World} {p : Addr} {v : Value} (h : w.cell? p = some v) : p.block < w.heap.size := by
  rcases Nat.lt_or_ge p.block w.heap.size with h' | h'
  · exact h'
  · exfalso
    unfold World.cell? at h
    rw [Array.getElem?_eq_none h'] at h
    cases h
theorem cell_keep {w w' : World} {p : Addr} {v : Value} (hB : Below w.heap.size w w') (h : w.cell? p = some v) : w'.cell? p = some v := (hB.cell (cell_lt h)).trans h
theorem frozen_keep {w w' : World} {p : Addr} {v : Value} (hB : Below w.heap.size w w') (h : w.cell? p = some v) (f : w.frozen? p = false) : w'.frozen? p = false := (hB.frozen (cell_lt h)).trans f
theorem own_set {w : World} {base n c b i : Nat} {A : Option Addr} {bs : List UInt8} {u : Value} (h : OwnB w base A n c bs) (hb : b < base) : OwnB (w.setCell ⟨b, i, none⟩ u) base A n c bs :=
  World.ownsRow.kept h (grown_setCell w b i u) (by
    cases hk : (Value.slice A n c).ownBlock with
    | none => exact .inl rfl
    | some k => exact .inr (by
        have := own_base h k hk
        intro e
        injection e with e
        omega))

/-- The writer at block g, with the bytes bs. -/
def Wr (w : World) (g : Nat) (bs : List UInt8) : Prop := ∃ A m c base, Blk w g 53 [.slice A m c] ∧ OwnB w base A m c bs ∧ g < base ∧ base ≤ w.heap.size

/-- What put appends. -/
def low (n : Int) (s : Nat) : List UInt8 := be (n % 2 ^ (8 * s)).toNat s

set_option maxHeartbeats 2000000 in
theorem wput_any (g : Nat) (n : Int) (s : Nat) (bs : List UInt8) (w : World) (h : Wr w g bs) (hs : s = 1 ∨ s = 2 ∨ s = 4 ∨ s = 8) (hn : -9223372036854775808 ≤ n ∧ n ≤ 9223372036854775807) (hl : bs.length ≤ 1000) :
    Calls Try.prog 26 #[.pointer (some ⟨g, 0, none⟩), .int .i64 n, .int .i64 (s : Nat)] w fun e w' => e = .returned (.tuple #[]) ∧ Wr w' g (bs ++ low n s) ∧ w.grownBy w' (some g) := by
  obtain ⟨A, m, c, base, hb, hown, hg, hbs⟩ := h
  have hc0 := hb.cell 0
  have hf0 := hb.frozen 0
  simp only [List.getElem?_cons_zero] at hc0
  have hm := hown.len
  have hr : RB w.drew A m c bs := hown.rb.below (Below.refl _ w).drew
  have hmm : m ≤ 1000 := by omega
  unfold low
  obtain ⟨V, hV⟩ : ∃ V : Int, V = n % 2 ^ (8 * s) := ⟨_, rfl⟩
  rw [← hV]
  have e8 : IntKind.i64.wrap 8 = 8 := rfl
  have e16 : IntKind.i64.wrap 16 = 16 := rfl
  have e32 : IntKind.i64.wrap 32 = 32 := rfl
  have e64 : IntKind.i64.wrap 64 = 64 := rfl
  have e48 : IntKind.i64.wrap 48 = 48 := rfl
  have e56 : IntKind.i64.wrap 56 = 56 := rfl
  have e0 : IntKind.i64.wrap 0 = 0 := rfl
  rcases hs with rfl | rfl | rfl | rfl
  · simp only [Nat.reduceMul, Int.reducePow] at hV
    have hx : IntKind.u64.wrap (IntKind.u64.wrap n * 72057594037927936) / 72057594037927936 = V := by rw [IntKind.wrap_u64, IntKind.wrap_u64]; omega
    have hV0 : 0 ≤ V := by omega
    have hVlt : V < 256 ^ (Int.toNat 1) := by rw [show Int.toNat 1 = 1 from rfl]; simp only [Int.reducePow]; omega
    have q1 : (1 : Int) ≤ 1 := by omega
    have q2 : (1 : Int) ≤ 8 := by omega
    have q3 : m ≤ 70368744177664 := by omega
    clear hV
    go_enter Try.func26, Try.ntmps26
    go_wp2
    go_region_law (first | (go_simp; go_at_call 44; refine (append_any A m c bs V 1 w.drew hr q1 q2 hV0 hVlt q3).mono ?_; rintro e w1 ⟨A1, n1, c1, rfl, hown1, hB1⟩; have j0 := cell_keep hB1 hc0; have j1 := frozen_keep hB1 hc0 hf0))
    all_goals
      have hB1' : Below w.heap.size w w1 := (Below.refl _ w).drew.trans hB1
      have hb1 := (hb.below' hB1').set_ 0 (.slice A1 n1 c1)
      have hlt := hb.lt
      go_wp2
      go_end0
      exact ⟨rfl, ⟨A1, n1, c1, w.heap.size, hb1, own_set hown1 hlt, hlt, Nat.le_trans hB1'.size (Nat.le_of_eq (by simp))⟩, (grown_of_below hB1' (some g)).trans (grown_setCell w1 g 0 _)⟩
  · simp only [Nat.reduceMul, Int.reducePow] at hV
    have hx : IntKind.u64.wrap (IntKind.u64.wrap n * 281474976710656) / 281474976710656 = V := by rw [IntKind.wrap_u64, IntKind.wrap_u64]; omega
    have hV0 : 0 ≤ V := by omega
    have hVlt : V < 256 ^ (Int.toNat 2) := by rw [show Int.toNat 2 = 2 from rfl]; simp only [Int.reducePow]; omega
    have q1 : (1 : Int) ≤ 2 := by omega
    have q2 : (2 : Int) ≤ 8 := by omega
    have q3 : m ≤ 70368744177664 := by omega
    clear hV
    go_enter Try.func26, Try.ntmps26
    go_wp2
    go_region_law (first | (go_simp; go_at_call 44; refine (append_any A m c bs V 2 w.drew hr q1 q2 hV0 hVlt q3).mono ?_; rintro e w1 ⟨A1, n1, c1, rfl, hown1, hB1⟩; have j0 := cell_keep hB1 hc0; have j1 := frozen_keep hB1 hc0 hf0))
    all_goals
      have hB1' : Below w.heap.size w w1 := (Below.refl _ w).drew.trans hB1
      have hb1 := (hb.below' hB1').set_ 0 (.slice A1 n1 c1)
      have hlt := hb.lt
      go_wp2
      go_end0
      exact ⟨rfl, ⟨A1, n1, c1, w.heap.size, hb1, own_set hown1 hlt, hlt, Nat.le_trans hB1'.size (Nat.le_of_eq (by simp))⟩, (grown_of_below hB1' (some g)).trans (grown_setCell w1 g 0 _)⟩
  · simp only [Nat.reduceMul, Int.reducePow] at hV
    have hx : IntKind.u64.wrap (IntKind.u64.wrap n * 4294967296) / 4294967296 = V := by rw [IntKind.wrap_u64, IntKind.wrap_u64]; omega
    have hV0 : 0 ≤ V := by omega
    have hVlt : V < 256 ^ (Int.toNat 4) := by rw [show Int.toNat 4 = 4 from rfl]; simp only [Int.reducePow]; omega
    have q1 : (1 : Int) ≤ 4 := by omega
    have q2 : (4 : Int) ≤ 8 := by omega
    have q3 : m ≤ 70368744177664 := by omega
    clear hV
    go_enter Try.func26, Try.ntmps26
    go_wp2
    go_region_law (first | (go_simp; go_at_call 44; refine (append_any A m c bs V 4 w.drew hr q1 q2 hV0 hVlt q3).mono ?_; rintro e w1 ⟨A1, n1, c1, rfl, hown1, hB1⟩; have j0 := cell_keep hB1 hc0; have j1 := frozen_keep hB1 hc0 hf0))
    all_goals
      have hB1' : Below w.heap.size w w1 := (Below.refl _ w).drew.trans hB1
      have hb1 := (hb.below' hB1').set_ 0 (.slice A1 n1 c1)
      have hlt := hb.lt
      go_wp2
      go_end0
      exact ⟨rfl, ⟨A1, n1, c1, w.heap.size, hb1, own_set hown1 hlt, hlt, Nat.le_trans hB1'.size (Nat.le_of_eq (by simp))⟩, (grown_of_below hB1' (some g)).trans (grown_setCell w1 g 0 _)⟩
  · simp only [Nat.reduceMul, Int.reducePow] at hV
    have hx : IntKind.u64.wrap (IntKind.u64.wrap n) = V := by rw [IntKind.wrap_u64, IntKind.wrap_u64]; omega
    have hV0 : 0 ≤ V := by omega
    have hVlt : V < 256 ^ (Int.toNat 8) := by rw [show Int.toNat 8 = 8 from rfl]; simp only [Int.reducePow]; omega
    have q1 : (1 : Int) ≤ 8 := by omega
    have q2 : (8 : Int) ≤ 8 := by omega
    have q3 : m ≤ 70368744177664 := by omega
    clear hV
    go_enter Try.func26, Try.ntmps26
    go_wp2
    go_region_law (first | (go_simp; go_at_call 44; refine (append_any A m c bs V 8 w.drew hr q1 q2 hV0 hVlt q3).mono ?_; rintro e w1 ⟨A1, n1, c1, rfl, hown1, hB1⟩; have j0 := cell_keep hB1 hc0; have j1 := frozen_keep hB1 hc0 hf0))
    all_goals
      have hB1' : Below w.heap.size w w1 := (Below.refl _ w).drew.trans hB1
      have hb1 := (hb.below' hB1').set_ 0 (.slice A1 n1 c1)
      have hlt := hb.lt
      go_wp2
      go_end0
      exact ⟨rfl, ⟨A1, n1, c1, w.heap.size, hb1, own_set hown1 hlt, hlt, Nat.le_trans hB1'.size (Nat.le_of_eq (by simp))⟩, (grown_of_below hB1' (some g)).trans (grown_setCell w1 g 0 _)⟩

theorem Wr.grown {w w' : World} {g : Nat} {bs : List UInt8} (h : Wr w g bs) (hB : Below w.heap.size w w') : Wr w' g bs := by
  obtain ⟨A, m, c, base, h1, h2, h3, h4⟩ := h
  exact ⟨A, m, c, base, h1.below' hB, h2.below hB, h3, Nat.le_trans h4 hB.size⟩

/-- The bytes of a timestamp. -/
def stampBytes (sec nano : Int) : List UInt8 := be sec.toNat 6 ++ be nano.toNat 4

theorem stamp_ok {sec nano : Int} (h : stampOk sec nano = true) : (0 ≤ sec ∧ sec ≤ 281474976710655) ∧ (0 ≤ nano ∧ nano < 1000000000) := by
  unfold stampOk at h
  simp only [Bool.not_eq_true', Bool.or_eq_false_iff, decide_eq_false_iff_not] at h
  omega

theorem stampEncode_any (sec nano : Int) (w : World) (h : stampOk sec nano = true) : Calls Try.prog 28 #[.agg #[.int .i64 sec, .int .i64 nano]] w fun e w' => ∃ A c, e = .returned (.tuple #[.slice A 10 c, .int .i64 0]) ∧ OwnB w' w.heap.size A 10 c (stampBytes sec nano) ∧ Below w.heap.size w w' := by
  obtain ⟨⟨h0, h1⟩, h2, h3⟩ := stamp_ok h
  have hse : stampErr sec nano = 0 := by unfold stampErr; rw [h]; rfl
  have hC := fun w => stampCheck_any sec nano w
  rw [hse] at hC
  have HC := hide hC
  clear hC hse h
  have hB := (Below.refl w.heap.size w).alloc (Nat.le_refl _) (.cells #[.int .i64 sec, .int .i64 nano] 24)
  have hb0 := Blk.new w 24 [.int .i64 sec, .int .i64 nano]
  have H6 := hide (show sec < 256 ^ (Int.toNat 6) by rw [show Int.toNat 6 = 6 from rfl]; simp only [Int.reducePow]; omega)
  have H4 := hide (show nano < 256 ^ (Int.toNat 4) by rw [show Int.toNat 4 = 4 from rfl]; simp only [Int.reducePow]; omega)
  go_enter Try.func28, Try.ntmps28
  go_wp2_with fail
  refine (HC.out _).mono ?_
  rintro e w1 ⟨rfl, hB1⟩
  have hb1 := hb0.below' hB1
  have hW1 := below_step hB hB1 hB.size
  have k0 := hb1.cell 0
  have k1 := hb1.cell 1
  simp only [List.getElem?_cons_zero, List.getElem?_cons_succ] at k0 k1
  go_wp2_with fail
  refine (append_any none 0 0 [] sec 6 w1 (RB.nil _) (by omega) (by omega) h0 H6.out (by omega)).mono ?_
  rintro e w2 ⟨A2, n2, c2, rfl, hown2, hB2⟩
  have hr2 := hown2.rb
  rw [List.nil_append] at hr2
  obtain rfl : n2 = 6 := by rw [← hr2.len]; exact be_length _ _
  have hb2 := hb1.below' hB2
  have hW2 := below_step hW1 hB2 hW1.size
  clear k0 k1
  have k0 := hb2.cell 0
  have k1 := hb2.cell 1
  simp only [List.getElem?_cons_zero, List.getElem?_cons_succ] at k0 k1
  go_wp2_with fail
  refine (append_any A2 6 c2 _ nano 4 w2 hr2 (by omega) (by omega) h2 H4.out (by omega)).mono ?_
  rintro e w3 ⟨A3, n3, c3, rfl, hown3, hB3⟩
  obtain rfl : n3 = 10 := by rw [← hown3.len]; simp [be_length]
  go_wp2
  go_ret2
  exact ⟨A3, c3, rfl, hown3.mono hW2.size, below_step hW2 hB3 hW2.size⟩
end Go.Proofs.Ytlobddhpkemklaa
