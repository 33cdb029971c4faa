/- The reader: Int, Left.
  SEATS: ext guard ptp -/
import Derived.Test.YtlobddhpkemklaaRead
import Derived.IntWalk
namespace Go.Proofs.Ytlobddhpkemklaa
open Go.RowKit
set_option linter.unusedVariables false

/-- A number of s bytes in two's complement. -/
def sgn (v s : Nat) : Int := if v < 2 ^ (8 * s - 1) then v else (v : Int) - 2 ^ (8 * s)

theorem left_any (g h : Nat) (bs : List UInt8) (p : Nat) (w : World) (hr : Rdr w g h bs p) :
    Calls Try.prog 50 #[.pointer (some ⟨g, 0, none⟩)] w fun e w' => e = .returned (.int .i64 ((bs.length - p : Nat) : Int)) ∧ w = w' := by
  obtain ⟨A, hg, hA⟩ := hr.cell
  have hc0 := hg.cell 0
  simp only [List.getElem?_cons_zero] at hc0
  have hm := hr.max
  generalize hM : bs.length - p = M at *
  have hM2 : M ≤ 70368744177664 := by omega
  go_enter Try.func50, Try.ntmps50
  go_wp2
  go_ret
  exact ⟨rfl, rfl⟩

theorem int_any (g h : Nat) (bs : List UInt8) (p : Nat) (s : Nat) (w : World) (hr : Rdr w g h bs p) (h1 : s = 1 ∨ s = 2 ∨ s = 8) (hn : p + s ≤ bs.length) :
    Calls Try.prog 49 #[.pointer (some ⟨g, 0, none⟩), .int .i64 (s : Nat)] w fun e w' => e = .returned (.int .i64 (sgn (ofBe (sub bs p s)) s)) ∧ Rdr w' g h bs (p + s) ∧ w.grownBy w' (some g) := by
  have hq : (decide (1 ≤ (s : Int)) && decide ((s : Int) ≤ 8)) = true := by simp; omega
  have hb := ofBe_lt (sub bs p s)
  rw [sub_length bs p s hn] at hb
  have Hs := hide (sub_sub0 bs p s)
  rcases h1 with rfl | rfl | rfl
  all_goals
    simp only [Nat.reducePow] at hb
    go_enter Try.func49, Try.ntmps49
    go_wp2_with (first
      | (go_at_call 46; refine (right_any _ _).mono ?_; rintro e w' ⟨rfl, rfl⟩)
      | (go_at_call 53; refine (take_any g h bs p _ _ hr (by omega) (by omega)).mono ?_; rintro e w1 ⟨A, c, rfl, hrb, hr1, hg1⟩; simp only [Int.reduceToNat] at hrb hr1 ⊢)
      | (go_at_call 34; refine (get_any A _ c _ 0 _ _ hrb (by omega) (by omega) (by omega) (by omega)).mono ?_; rintro e w' ⟨rfl, rfl⟩; simp only [Int.reduceToNat, Hs.out]))
    go_ret
    refine ⟨?_, hr1, hg1⟩
    generalize ofBe (sub bs p _) = v at hb ⊢
    refine congrArg (fun z => Ending.returned (.int .i64 z)) ?_
    unfold sgn wrap64
    simp only [Nat.reduceMul, Nat.reduceSub, Nat.reducePow, Int.reducePow]
    split <;> omega

theorem rdr_far {w : World} {p q b i : Nat} {bs : List UInt8} {n : Nat} (h : Rdr w p q bs n) (hp : p ≠ b) (hq : q ≠ b) (u : Value) : Rdr (w.setCell ⟨b, i, none⟩ u) p q bs n := by
  obtain ⟨A, hc, hA⟩ := h.cell
  exact ⟨h.ne, h.le, h.max, h.buf.far (p := ⟨b, i, none⟩) hq u, A, hc.far (p := ⟨b, i, none⟩) hp u, hA⟩
theorem rdr_below {w w' : World} {p q : Nat} {bs : List UInt8} {n : Nat} (h : Rdr w p q bs n) (hb : Below w.heap.size w w') : Rdr w' p q bs n := by
  obtain ⟨A, hc, hA⟩ := h.cell
  exact ⟨h.ne, h.le, h.max, h.buf.below' hb, A, hc.below' hb, hA⟩
theorem rdr_lt {w : World} {p q : Nat} {bs : List UInt8} {n : Nat} (h : Rdr w p q bs n) : p < w.heap.size ∧ q < w.heap.size := by
  obtain ⟨A, hc, hA⟩ := h.cell
  exact ⟨hc.lt, h.buf.lt⟩
end Go.Proofs.Ytlobddhpkemklaa
