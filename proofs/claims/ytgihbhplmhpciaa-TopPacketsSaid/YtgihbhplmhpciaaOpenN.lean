/- NTP headers as they come in.
  SEATS: ext guard -/
import Derived.Test.YtgihbhplmhpciaaNtp
import Derived.Test.YtgihbhplmhpciaaProg
import Derived.KernelRfl
import Derived.ProofKit
import Derived.Deep.Slices
import Derived.Deep.Fields
import Derived.ChangeSame
import Derived.OpenShut
import Derived.Lib.SmallJoins
namespace Go.Proofs.Ytgihbhplmhpciaa
open Go.RowKit Go.ChangeShapes Go.WideShapes Go.Deep Go.Joins
set_option linter.unusedVariables false

section
variable {H : Type} {enc : TypeId × Value → H} {W : World} {base : Nat} {spare : Nat → Bool} {held : Bool}

theorem cellsN_ntp : Try.prog.cellsOf 41 = 13 := by kernel_rfl
theorem cellsN_int : Try.prog.cellsOf 3 = 1 := by kernel_rfl
theorem cellsN_u32 : Try.prog.cellsOf 38 = 1 := by kernel_rfl
theorem cellsN_u64 : Try.prog.cellsOf 39 = 1 := by kernel_rfl

theorem list13 {α : Type} : ∀ l : List α, l.length = 13 → ∃ c0 c1 c2 c3 c4 c5 c6 c7 c8 c9 c10 c11 c12, l = [c0, c1, c2, c3, c4, c5, c6, c7, c8, c9, c10, c11, c12]
  | [c0, c1, c2, c3, c4, c5, c6, c7, c8, c9, c10, c11, c12], _ => ⟨c0, c1, c2, c3, c4, c5, c6, c7, c8, c9, c10, c11, c12, rfl⟩

theorem open_ntp_cells {fuel : Nat} {cs : List Value} {x : DataW H × List MemPlace} (h : DataW.trod enc Try.prog W base spare held fuel 41 cs = some x) : ∃ p : Ntp, cs = p.cells ∧ p.In := by
  obtain ⟨xs, n, _, _, hlen, hxl, hi⟩ := DataW.trod_struct Try.underlying41 h
  rw [cellsN_ntp] at hlen
  obtain ⟨c0, c1, c2, c3, c4, c5, c6, c7, c8, c9, c10, c11, c12, rfl⟩ := list13 cs hlen
  have hxl : xs.length = 13 := hxl
  have h0 : DataW.trod enc Try.prog W base spare held n 3 (([c0, c1, c2, c3, c4, c5, c6, c7, c8, c9, c10, c11, c12].drop 0).take (Try.prog.cellsOf 3)) = xs[0]? := hi 0 _ rfl
  rw [cellsN_int, List.getElem?_eq_getElem (show 0 < xs.length by omega)] at h0
  have h1 : DataW.trod enc Try.prog W base spare held n 3 (([c0, c1, c2, c3, c4, c5, c6, c7, c8, c9, c10, c11, c12].drop 1).take (Try.prog.cellsOf 3)) = xs[1]? := hi 1 _ rfl
  rw [cellsN_int, List.getElem?_eq_getElem (show 1 < xs.length by omega)] at h1
  have h2 : DataW.trod enc Try.prog W base spare held n 3 (([c0, c1, c2, c3, c4, c5, c6, c7, c8, c9, c10, c11, c12].drop 2).take (Try.prog.cellsOf 3)) = xs[2]? := hi 2 _ rfl
  rw [cellsN_int, List.getElem?_eq_getElem (show 2 < xs.length by omega)] at h2
  have h3 : DataW.trod enc Try.prog W base spare held n 3 (([c0, c1, c2, c3, c4, c5, c6, c7, c8, c9, c10, c11, c12].drop 3).take (Try.prog.cellsOf 3)) = xs[3]? := hi 3 _ rfl
  rw [cellsN_int, List.getElem?_eq_getElem (show 3 < xs.length by omega)] at h3
  have h4 : DataW.trod enc Try.prog W base spare held n 3 (([c0, c1, c2, c3, c4, c5, c6, c7, c8, c9, c10, c11, c12].drop 4).take (Try.prog.cellsOf 3)) = xs[4]? := hi 4 _ rfl
  rw [cellsN_int, List.getElem?_eq_getElem (show 4 < xs.length by omega)] at h4
  have h5 : DataW.trod enc Try.prog W base spare held n 3 (([c0, c1, c2, c3, c4, c5, c6, c7, c8, c9, c10, c11, c12].drop 5).take (Try.prog.cellsOf 3)) = xs[5]? := hi 5 _ rfl
  rw [cellsN_int, List.getElem?_eq_getElem (show 5 < xs.length by omega)] at h5
  have h6 : DataW.trod enc Try.prog W base spare held n 38 (([c0, c1, c2, c3, c4, c5, c6, c7, c8, c9, c10, c11, c12].drop 6).take (Try.prog.cellsOf 38)) = xs[6]? := hi 6 _ rfl
  rw [cellsN_u32, List.getElem?_eq_getElem (show 6 < xs.length by omega)] at h6
  have h7 : DataW.trod enc Try.prog W base spare held n 38 (([c0, c1, c2, c3, c4, c5, c6, c7, c8, c9, c10, c11, c12].drop 7).take (Try.prog.cellsOf 38)) = xs[7]? := hi 7 _ rfl
  rw [cellsN_u32, List.getElem?_eq_getElem (show 7 < xs.length by omega)] at h7
  have h8 : DataW.trod enc Try.prog W base spare held n 38 (([c0, c1, c2, c3, c4, c5, c6, c7, c8, c9, c10, c11, c12].drop 8).take (Try.prog.cellsOf 38)) = xs[8]? := hi 8 _ rfl
  rw [cellsN_u32, List.getElem?_eq_getElem (show 8 < xs.length by omega)] at h8
  have h9 : DataW.trod enc Try.prog W base spare held n 39 (([c0, c1, c2, c3, c4, c5, c6, c7, c8, c9, c10, c11, c12].drop 9).take (Try.prog.cellsOf 39)) = xs[9]? := hi 9 _ rfl
  rw [cellsN_u64, List.getElem?_eq_getElem (show 9 < xs.length by omega)] at h9
  have h10 : DataW.trod enc Try.prog W base spare held n 39 (([c0, c1, c2, c3, c4, c5, c6, c7, c8, c9, c10, c11, c12].drop 10).take (Try.prog.cellsOf 39)) = xs[10]? := hi 10 _ rfl
  rw [cellsN_u64, List.getElem?_eq_getElem (show 10 < xs.length by omega)] at h10
  have h11 : DataW.trod enc Try.prog W base spare held n 39 (([c0, c1, c2, c3, c4, c5, c6, c7, c8, c9, c10, c11, c12].drop 11).take (Try.prog.cellsOf 39)) = xs[11]? := hi 11 _ rfl
  rw [cellsN_u64, List.getElem?_eq_getElem (show 11 < xs.length by omega)] at h11
  have h12 : DataW.trod enc Try.prog W base spare held n 39 (([c0, c1, c2, c3, c4, c5, c6, c7, c8, c9, c10, c11, c12].drop 12).take (Try.prog.cellsOf 39)) = xs[12]? := hi 12 _ rfl
  rw [cellsN_u64, List.getElem?_eq_getElem (show 12 < xs.length by omega)] at h12
  obtain ⟨a0, e0, _, w0⟩ := DataW.trod_int Try.underlying3 h0
  simp at e0
  obtain ⟨a1, e1, _, w1⟩ := DataW.trod_int Try.underlying3 h1
  simp at e1
  obtain ⟨a2, e2, _, w2⟩ := DataW.trod_int Try.underlying3 h2
  simp at e2
  obtain ⟨a3, e3, _, w3⟩ := DataW.trod_int Try.underlying3 h3
  simp at e3
  obtain ⟨a4, e4, _, w4⟩ := DataW.trod_int Try.underlying3 h4
  simp at e4
  obtain ⟨a5, e5, _, w5⟩ := DataW.trod_int Try.underlying3 h5
  simp at e5
  obtain ⟨a6, e6, _, w6⟩ := DataW.trod_int Try.underlying38 h6
  simp at e6
  obtain ⟨a7, e7, _, w7⟩ := DataW.trod_int Try.underlying38 h7
  simp at e7
  obtain ⟨a8, e8, _, w8⟩ := DataW.trod_int Try.underlying38 h8
  simp at e8
  obtain ⟨a9, e9, _, w9⟩ := DataW.trod_int Try.underlying39 h9
  simp at e9
  obtain ⟨a10, e10, _, w10⟩ := DataW.trod_int Try.underlying39 h10
  simp at e10
  obtain ⟨a11, e11, _, w11⟩ := DataW.trod_int Try.underlying39 h11
  simp at e11
  obtain ⟨a12, e12, _, w12⟩ := DataW.trod_int Try.underlying39 h12
  simp at e12
  subst e0 e1 e2 e3 e4 e5 e6 e7 e8 e9 e10 e11 e12
  exact ⟨⟨a0, a1, a2, a3, a4, a5, a6, a7, a8, a9, a10, a11, a12⟩, rfl, ⟨bounds_i64 w0, bounds_i64 w1, bounds_i64 w2, bounds_i64 w3, bounds_i64 w4, bounds_i64 w5, bounds_u32 w6, bounds_u32 w7, bounds_u32 w8, bounds_u64 w9, bounds_u64 w10, bounds_u64 w11, bounds_u64 w12⟩⟩

theorem open_ntp {r : Reach} {b0 : Nat} {v : Value} {d : DataW H} {p : List MemPlace} (hval : Value.okWide Try.prog W r b0 41 v) (h : DataW.Trod enc Try.prog W base spare held 41 v d p) : ∃ q : Ntp, v = q.val ∧ q.In := by
  obtain ⟨cs, rfl, hsz⟩ := okWide_struct Try.underlying41 hval
  obtain ⟨fuel, hf⟩ := h
  obtain ⟨q, hq, hin⟩ := open_ntp_cells hf
  refine ⟨q, ?_, hin⟩
  unfold Ntp.val
  rw [← hq]
  simp [Value.cells]
end
end Go.Proofs.Ytgihbhplmhpciaa
