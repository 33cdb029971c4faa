/- A timestamp is read.
  SEATS: ptp -/
import Derived.Test.YtlobddhpkemklaaPtpR
namespace Go.Proofs.Ytlobddhpkemklaa
open Go.RowKit
set_option linter.unusedVariables false

set_option maxHeartbeats 2000000 in
theorem stampDecode_ok (A : Option Addr) (c : Nat) (bs : List UInt8) (w : World) (h : RB w A 10 c bs) (hok : stampErr (num bs 0 6 : Nat) (num bs 6 4 : Nat) = 0) :
    Calls Try.prog 19 #[.slice A 10 c] w fun e w' => e = .returned (.tuple #[.agg #[.int .i64 (num bs 0 6 : Nat), .int .i64 (num bs 6 4 : Nat)], .int .i64 0]) ∧ Below w.heap.size w w' := by
  have hl := h.len
  have l1 : num bs 0 6 < 256 ^ 6 := ofBe_le (by simp [sub]; omega)
  have l2 : num bs 6 4 < 256 ^ 4 := ofBe_le (by simp [sub]; omega)
  have HS := hide (fun w => stampCheck_any (num bs 0 6 : Nat) (num bs 6 4 : Nat) w)
  rw [hok] at HS
  have hZ := Blk.new w 24 [.int .i64 0, .int .i64 0]
  have hW := (Below.refl w.heap.size w).alloc (Nat.le_refl _) (.cells #[.int .i64 0, .int .i64 0] 24)
  have h1 := h.alloc (.cells #[.int .i64 0, .int .i64 0] 24)
  have N1 := hide (show num bs 0 6 = ofBe (sub bs 0 (6 : Int).toNat) from rfl)
  have N2 := hide (show num bs 6 4 = ofBe (sub bs (0 + (6 : Int).toNat) (4 : Int).toNat) from rfl)
  have Hl := hide hl
  generalize num bs 0 6 = y1 at *
  generalize num bs 6 4 = y2 at *
  clear h hok hl
  go_enter Try.func19, Try.ntmps19
  go_wp2_with fail
  refine (newReader_any A 10 c bs _ h1 (by omega)).mono ?_
  rintro e w1 ⟨g, k, rfl, hR, hg, hk, hB1⟩
  have hZ1 := hZ.below' hB1
  have hW1 := below_step hW hB1 hW.size
  have hgz : w.heap.size ≠ g := by simp at hg; omega
  have hgW : w.heap.size ≤ g := by simp at hg; omega
  clear hZ hW hB1 h1 hk hg
  go_wp2_with fail
  refine (uint_any g k bs 0 6 w1 hR (by omega) (by omega) (by rw [Hl.out]; omega)).mono ?_
  rintro e w2 ⟨rfl, hR2, hG2⟩
  rw [← N1.out]
  have hZ2 := hZ1.grown hG2 (by simp; omega)
  have hW2 := hW1.grown hG2 hW1.size (by intro b hb; cases hb; exact hgW)
  clear hZ1 hW1 hG2 hR
  go_wp2_with fail
  refine (uint_any g k bs _ 4 w2 hR2 (by omega) (by omega) (by rw [Hl.out]; decide)).mono ?_
  rintro e w3 ⟨rfl, hR3, hG3⟩
  rw [← N2.out]
  have hZ3 := hZ2.grown hG3 (by simp; omega)
  have hW3 := hW2.grown hG3 hW2.size (by intro b hb; cases hb; exact hgW)
  clear hZ2 hW2 hG3 hR2 hR3
  have hZ4 := hZ3.alloc (.cells #[.int .i64 y1, .int .i64 y2] 24)
  have hW4 := hW3.alloc hW3.size (.cells #[.int .i64 y1, .int .i64 y2] 24)
  have hN4 := Blk.new w3 24 [.int .i64 y1, .int .i64 y2]
  clear hZ3 hW3
  go_wp2_with fail
  refine (HS.out _).mono ?_
  rintro e w5 ⟨rfl, hB5⟩
  have hZ5 := hZ4.below' hB5
  have hN5 := hN4.below' hB5
  have hW5 := below_step hW4 hB5 hW4.size
  have c0 := hZ5.cell 0
  have c1 := hZ5.cell 1
  have f0 := hZ5.frozen 0
  have f1 := hZ5.frozen 1
  have d0 := hN5.cell 0
  have d1 := hN5.cell 1
  simp only [List.getElem?_cons_zero, List.getElem?_cons_succ] at c0 c1 d0 d1
  have hZ6 := (hZ5.set_ 0 (.int .i64 y1)).set_ 1 (.int .i64 y2)
  simp only [List.set_cons_zero, List.set_cons_succ] at hZ6
  have e0 := hZ6.cell 0
  have e1 := hZ6.cell 1
  simp only [List.getElem?_cons_zero, List.getElem?_cons_succ] at e0 e1
  have E := hide (And.intro e0 e1)
  have hW6 := (hW5.setCell (p := ⟨w.heap.size, 0, none⟩) (Nat.le_refl _) (.int .i64 y1)).setCell (p := ⟨w.heap.size, 1, none⟩) (Nat.le_refl _) (.int .i64 y2)
  clear hZ4 hN4 hW4 hB5 hZ5 hN5 hW5 hZ6 e0 e1
  go_wp2
  refine bodyPost_ret (v := .tuple #[.agg #[.int .i64 y1, .int .i64 y2], .int .i64 0]) (by simp [results, Try.results19, go_sem, E.out]) rfl ⟨rfl, hW6⟩
end Go.Proofs.Ytlobddhpkemklaa
