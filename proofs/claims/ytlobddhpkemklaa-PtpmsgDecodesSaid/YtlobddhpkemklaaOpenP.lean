/- Messages as they come in.
  SEATS: ptp -/
import Derived.Test.YtlobddhpkemklaaPtp
import Derived.Test.YtlobddhpkemklaaBase
import Derived.Test.YtlobddhpkemklaaProg
import Derived.KernelRfl
import Derived.ProofKit
import Derived.Deep.Slices
import Derived.Deep.Fields
import Derived.ChangeSame
import Derived.OpenShut
import Derived.Lib.SmallJoins
namespace Go.Proofs.Ytlobddhpkemklaa
open Go.RowKit Go.ChangeShapes Go.WideShapes Go.Deep Go.Joins
set_option linter.unusedVariables false

section
variable {H : Type} {enc : TypeId × Value → H} {W : World} {base : Nat} {spare : Nat → Bool} {held : Bool}

theorem cellsN_ptp : Try.prog.cellsOf 28 = 21 := by kernel_rfl
theorem cellsN_stamp : Try.prog.cellsOf 24 = 2 := by kernel_rfl
theorem cellsN_ann : Try.prog.cellsOf 26 = 9 := by kernel_rfl
theorem cellsN_int : Try.prog.cellsOf 3 = 1 := by kernel_rfl
theorem cellsN_u64 : Try.prog.cellsOf 22 = 1 := by kernel_rfl

theorem cells_u8 : Try.prog.cellsOf 5 = 1 := by kernel_rfl
theorem spot_none {w : World} {a : Addr} {v : Value} (h : w.cell? a = some v) : a.spot = none := by
  obtain ⟨b, o, s⟩ := a
  simpa using World.cell?_spot h

theorem open_rb {fuel : Nat} {A : Option Addr} {n c : Nat} {x : DataW H × List MemPlace} (h : DataW.trod enc Try.prog W base spare held fuel 34 [.slice A n c] = some x) : ∃ bs, RB W A n c bs := by
  rcases open_ints Try.underlying34 Try.underlying5 cells_u8 h with ⟨hcs, _⟩ | ⟨a, l, cp, zs, hcs, _, hl, hm, hz, _, hcell, hwz⟩
  · injection hcs with hcs
    injection hcs with e1 e2 e3
    subst e1 e2 e3
    exact ⟨[], RB.nil W⟩
  · injection hcs with hcs
    injection hcs with e1 e2 e3
    subst e1 e2 e3
    have hzl : n ≤ zs.length := by rw [hz]; split <;> omega
    refine ⟨(zs.take n).map fun z => UInt8.ofNat z.toNat, by simp; omega, hl, by simpa [maxLen] using hm, fun hn => ?_⟩
    have hc0 := hcell 0 (by omega)
    obtain ⟨b, o, s⟩ := a
    obtain rfl : s = none := by
      have := spot_none hc0
      simpa [Addr.add] using this
    refine ⟨b, o, rfl, ?_, fun j u hu => ?_⟩
    · have := World.block_lt_of_cell? W _ hc0
      simpa [Addr.add] using this
    · have hj : j < n := by
        have := (List.getElem?_eq_some_iff.1 hu).1
        simp [BV] at this
        omega
      have hcj := hcell j (by omega)
      rw [Addr.add_lit] at hcj
      rw [hcj]
      have hmem : zs[j]? = some (zs.getD j 0) := by simp [List.getD, List.getElem?_eq_getElem (show j < zs.length by omega)]
      have hb := bounds_u8 (hwz _ (List.mem_of_getElem? hmem))
      generalize zs.getD j 0 = z at *
      rw [← hu]
      rw [BV_get, List.getElem?_map, List.getElem?_take, if_pos hj, hmem]
      simp
      omega

theorem list21 {α : Type} : ∀ l : List α, l.length = 21 → ∃ c0 c1 c2 c3 c4 c5 c6 c7 c8 c9 c10 c11 c12 c13 c14 c15 c16 c17 c18 c19 c20, l = [c0, c1, c2, c3, c4, c5, c6, c7, c8, c9, c10, c11, c12, c13, c14, c15, c16, c17, c18, c19, c20]
  | [c0, c1, c2, c3, c4, c5, c6, c7, c8, c9, c10, c11, c12, c13, c14, c15, c16, c17, c18, c19, c20], _ => ⟨c0, c1, c2, c3, c4, c5, c6, c7, c8, c9, c10, c11, c12, c13, c14, c15, c16, c17, c18, c19, c20, rfl⟩

theorem open_stamp {fuel : Nat} {c8 c9 : Value} {x : DataW H × List MemPlace} (h : DataW.trod enc Try.prog W base spare held fuel 24 [c8, c9] = some x) :
    ∃ a8 a9 : Int, c8 = .int .i64 a8 ∧ c9 = .int .i64 a9 ∧ (-9223372036854775808 ≤ a8 ∧ a8 ≤ 9223372036854775807) ∧ (-9223372036854775808 ≤ a9 ∧ a9 ≤ 9223372036854775807) := by
  obtain ⟨xs, n, _, _, hlen, hxl, hi⟩ := DataW.trod_struct Try.underlying24 h
  have hxl : xs.length = 2 := hxl
  have h8 : DataW.trod enc Try.prog W base spare held n 3 (([c8, c9].drop 0).take (Try.prog.cellsOf 3)) = xs[0]? := hi 0 _ rfl
  rw [cellsN_int, List.getElem?_eq_getElem (show 0 < xs.length by omega)] at h8
  have h9 : DataW.trod enc Try.prog W base spare held n 3 (([c8, c9].drop 1).take (Try.prog.cellsOf 3)) = xs[1]? := hi 1 _ rfl
  rw [cellsN_int, List.getElem?_eq_getElem (show 1 < xs.length by omega)] at h9
  obtain ⟨a8, e8, _, w8⟩ := DataW.trod_int Try.underlying3 h8
  simp at e8
  obtain ⟨a9, e9, _, w9⟩ := DataW.trod_int Try.underlying3 h9
  simp at e9
  exact ⟨a8, a9, e8, e9, bounds_i64 w8, bounds_i64 w9⟩

theorem open_ann {fuel : Nat} {c12 c13 c14 c15 c16 c17 c18 c19 c20 : Value} {x : DataW H × List MemPlace} (h : DataW.trod enc Try.prog W base spare held fuel 26 [c12, c13, c14, c15, c16, c17, c18, c19, c20] = some x) :
    ∃ a12 a13 a14 a15 a16 a17 a18 a19 a20 : Int, c12 = .int .i64 a12 ∧ c13 = .int .i64 a13 ∧ c14 = .int .i64 a14 ∧ c15 = .int .i64 a15 ∧ c16 = .int .i64 a16 ∧ c17 = .int .i64 a17 ∧ c18 = .int .u64 a18 ∧ c19 = .int .i64 a19 ∧ c20 = .int .i64 a20 ∧ (-9223372036854775808 ≤ a12 ∧ a12 ≤ 9223372036854775807) ∧ (-9223372036854775808 ≤ a13 ∧ a13 ≤ 9223372036854775807) ∧ (-9223372036854775808 ≤ a14 ∧ a14 ≤ 9223372036854775807) ∧ (-9223372036854775808 ≤ a15 ∧ a15 ≤ 9223372036854775807) ∧ (-9223372036854775808 ≤ a16 ∧ a16 ≤ 9223372036854775807) ∧ (-9223372036854775808 ≤ a17 ∧ a17 ≤ 9223372036854775807) ∧ (0 ≤ a18 ∧ a18 ≤ 18446744073709551615) ∧ (-9223372036854775808 ≤ a19 ∧ a19 ≤ 9223372036854775807) ∧ (-9223372036854775808 ≤ a20 ∧ a20 ≤ 9223372036854775807) := by
  obtain ⟨xs, n, _, _, hlen, hxl, hi⟩ := DataW.trod_struct Try.underlying26 h
  have hxl : xs.length = 9 := hxl
  have h12 : DataW.trod enc Try.prog W base spare held n 3 (([c12, c13, c14, c15, c16, c17, c18, c19, c20].drop 0).take (Try.prog.cellsOf 3)) = xs[0]? := hi 0 _ rfl
  rw [cellsN_int, List.getElem?_eq_getElem (show 0 < xs.length by omega)] at h12
  have h13 : DataW.trod enc Try.prog W base spare held n 3 (([c12, c13, c14, c15, c16, c17, c18, c19, c20].drop 1).take (Try.prog.cellsOf 3)) = xs[1]? := hi 1 _ rfl
  rw [cellsN_int, List.getElem?_eq_getElem (show 1 < xs.length by omega)] at h13
  have h14 : DataW.trod enc Try.prog W base spare held n 3 (([c12, c13, c14, c15, c16, c17, c18, c19, c20].drop 2).take (Try.prog.cellsOf 3)) = xs[2]? := hi 2 _ rfl
  rw [cellsN_int, List.getElem?_eq_getElem (show 2 < xs.length by omega)] at h14
  have h15 : DataW.trod enc Try.prog W base spare held n 3 (([c12, c13, c14, c15, c16, c17, c18, c19, c20].drop 3).take (Try.prog.cellsOf 3)) = xs[3]? := hi 3 _ rfl
  rw [cellsN_int, List.getElem?_eq_getElem (show 3 < xs.length by omega)] at h15
  have h16 : DataW.trod enc Try.prog W base spare held n 3 (([c12, c13, c14, c15, c16, c17, c18, c19, c20].drop 4).take (Try.prog.cellsOf 3)) = xs[4]? := hi 4 _ rfl
  rw [cellsN_int, List.getElem?_eq_getElem (show 4 < xs.length by omega)] at h16
  have h17 : DataW.trod enc Try.prog W base spare held n 3 (([c12, c13, c14, c15, c16, c17, c18, c19, c20].drop 5).take (Try.prog.cellsOf 3)) = xs[5]? := hi 5 _ rfl
  rw [cellsN_int, List.getElem?_eq_getElem (show 5 < xs.length by omega)] at h17
  have h18 : DataW.trod enc Try.prog W base spare held n 22 (([c12, c13, c14, c15, c16, c17, c18, c19, c20].drop 6).take (Try.prog.cellsOf 22)) = xs[6]? := hi 6 _ rfl
  rw [cellsN_u64, List.getElem?_eq_getElem (show 6 < xs.length by omega)] at h18
  have h19 : DataW.trod enc Try.prog W base spare held n 3 (([c12, c13, c14, c15, c16, c17, c18, c19, c20].drop 7).take (Try.prog.cellsOf 3)) = xs[7]? := hi 7 _ rfl
  rw [cellsN_int, List.getElem?_eq_getElem (show 7 < xs.length by omega)] at h19
  have h20 : DataW.trod enc Try.prog W base spare held n 3 (([c12, c13, c14, c15, c16, c17, c18, c19, c20].drop 8).take (Try.prog.cellsOf 3)) = xs[8]? := hi 8 _ rfl
  rw [cellsN_int, List.getElem?_eq_getElem (show 8 < xs.length by omega)] at h20
  obtain ⟨a12, e12, _, w12⟩ := DataW.trod_int Try.underlying3 h12
  simp at e12
  obtain ⟨a13, e13, _, w13⟩ := DataW.trod_int Try.underlying3 h13
  simp at e13
  obtain ⟨a14, e14, _, w14⟩ := DataW.trod_int Try.underlying3 h14
  simp at e14
  obtain ⟨a15, e15, _, w15⟩ := DataW.trod_int Try.underlying3 h15
  simp at e15
  obtain ⟨a16, e16, _, w16⟩ := DataW.trod_int Try.underlying3 h16
  simp at e16
  obtain ⟨a17, e17, _, w17⟩ := DataW.trod_int Try.underlying3 h17
  simp at e17
  obtain ⟨a18, e18, _, w18⟩ := DataW.trod_int Try.underlying22 h18
  simp at e18
  obtain ⟨a19, e19, _, w19⟩ := DataW.trod_int Try.underlying3 h19
  simp at e19
  obtain ⟨a20, e20, _, w20⟩ := DataW.trod_int Try.underlying3 h20
  simp at e20
  exact ⟨a12, a13, a14, a15, a16, a17, a18, a19, a20, e12, e13, e14, e15, e16, e17, e18, e19, e20, bounds_i64 w12, bounds_i64 w13, bounds_i64 w14, bounds_i64 w15, bounds_i64 w16, bounds_i64 w17, bounds_u64 w18, bounds_i64 w19, bounds_i64 w20⟩

theorem open_ptp_cells {fuel : Nat} {cs : List Value} {x : DataW H × List MemPlace} (h : DataW.trod enc Try.prog W base spare held fuel 28 cs = some x) : ∃ p : Ptp, cs = p.cells ∧ p.In := by
  obtain ⟨xs, n, _, _, hlen, hxl, hi⟩ := DataW.trod_struct Try.underlying28 h
  rw [cellsN_ptp] at hlen
  obtain ⟨c0, c1, c2, c3, c4, c5, c6, c7, c8, c9, c10, c11, c12, c13, c14, c15, c16, c17, c18, c19, c20, rfl⟩ := list21 cs hlen
  have hxl : xs.length = 12 := hxl
  have h0 : DataW.trod enc Try.prog W base spare held n 3 (([c0, c1, c2, c3, c4, c5, c6, c7, c8, c9, c10, c11, c12, c13, c14, c15, c16, c17, c18, c19, c20].drop 0).take (Try.prog.cellsOf 3)) = xs[0]? := hi 0 _ rfl
  rw [cellsN_int, List.getElem?_eq_getElem (show 0 < xs.length by omega)] at h0
  have h1 : DataW.trod enc Try.prog W base spare held n 3 (([c0, c1, c2, c3, c4, c5, c6, c7, c8, c9, c10, c11, c12, c13, c14, c15, c16, c17, c18, c19, c20].drop 1).take (Try.prog.cellsOf 3)) = xs[1]? := hi 1 _ rfl
  rw [cellsN_int, List.getElem?_eq_getElem (show 1 < xs.length by omega)] at h1
  have h2 : DataW.trod enc Try.prog W base spare held n 3 (([c0, c1, c2, c3, c4, c5, c6, c7, c8, c9, c10, c11, c12, c13, c14, c15, c16, c17, c18, c19, c20].drop 2).take (Try.prog.cellsOf 3)) = xs[2]? := hi 2 _ rfl
  rw [cellsN_int, List.getElem?_eq_getElem (show 2 < xs.length by omega)] at h2
  have h3 : DataW.trod enc Try.prog W base spare held n 3 (([c0, c1, c2, c3, c4, c5, c6, c7, c8, c9, c10, c11, c12, c13, c14, c15, c16, c17, c18, c19, c20].drop 3).take (Try.prog.cellsOf 3)) = xs[3]? := hi 3 _ rfl
  rw [cellsN_int, List.getElem?_eq_getElem (show 3 < xs.length by omega)] at h3
  have h4 : DataW.trod enc Try.prog W base spare held n 22 (([c0, c1, c2, c3, c4, c5, c6, c7, c8, c9, c10, c11, c12, c13, c14, c15, c16, c17, c18, c19, c20].drop 4).take (Try.prog.cellsOf 22)) = xs[4]? := hi 4 _ rfl
  rw [cellsN_u64, List.getElem?_eq_getElem (show 4 < xs.length by omega)] at h4
  have h5 : DataW.trod enc Try.prog W base spare held n 3 (([c0, c1, c2, c3, c4, c5, c6, c7, c8, c9, c10, c11, c12, c13, c14, c15, c16, c17, c18, c19, c20].drop 5).take (Try.prog.cellsOf 3)) = xs[5]? := hi 5 _ rfl
  rw [cellsN_int, List.getElem?_eq_getElem (show 5 < xs.length by omega)] at h5
  have h6 : DataW.trod enc Try.prog W base spare held n 3 (([c0, c1, c2, c3, c4, c5, c6, c7, c8, c9, c10, c11, c12, c13, c14, c15, c16, c17, c18, c19, c20].drop 6).take (Try.prog.cellsOf 3)) = xs[6]? := hi 6 _ rfl
  rw [cellsN_int, List.getElem?_eq_getElem (show 6 < xs.length by omega)] at h6
  have h7 : DataW.trod enc Try.prog W base spare held n 3 (([c0, c1, c2, c3, c4, c5, c6, c7, c8, c9, c10, c11, c12, c13, c14, c15, c16, c17, c18, c19, c20].drop 7).take (Try.prog.cellsOf 3)) = xs[7]? := hi 7 _ rfl
  rw [cellsN_int, List.getElem?_eq_getElem (show 7 < xs.length by omega)] at h7
  have h8 : DataW.trod enc Try.prog W base spare held n 24 (([c0, c1, c2, c3, c4, c5, c6, c7, c8, c9, c10, c11, c12, c13, c14, c15, c16, c17, c18, c19, c20].drop 8).take (Try.prog.cellsOf 24)) = xs[8]? := hi 8 _ rfl
  rw [cellsN_stamp, List.getElem?_eq_getElem (show 8 < xs.length by omega)] at h8
  have h10 : DataW.trod enc Try.prog W base spare held n 22 (([c0, c1, c2, c3, c4, c5, c6, c7, c8, c9, c10, c11, c12, c13, c14, c15, c16, c17, c18, c19, c20].drop 10).take (Try.prog.cellsOf 22)) = xs[9]? := hi 9 _ rfl
  rw [cellsN_u64, List.getElem?_eq_getElem (show 9 < xs.length by omega)] at h10
  have h11 : DataW.trod enc Try.prog W base spare held n 3 (([c0, c1, c2, c3, c4, c5, c6, c7, c8, c9, c10, c11, c12, c13, c14, c15, c16, c17, c18, c19, c20].drop 11).take (Try.prog.cellsOf 3)) = xs[10]? := hi 10 _ rfl
  rw [cellsN_int, List.getElem?_eq_getElem (show 10 < xs.length by omega)] at h11
  have h12 : DataW.trod enc Try.prog W base spare held n 26 (([c0, c1, c2, c3, c4, c5, c6, c7, c8, c9, c10, c11, c12, c13, c14, c15, c16, c17, c18, c19, c20].drop 12).take (Try.prog.cellsOf 26)) = xs[11]? := hi 11 _ rfl
  rw [cellsN_ann, List.getElem?_eq_getElem (show 11 < xs.length by omega)] at h12
  obtain ⟨a0, e0, _, w0⟩ := DataW.trod_int Try.underlying3 h0
  simp at e0
  obtain ⟨a1, e1, _, w1⟩ := DataW.trod_int Try.underlying3 h1
  simp at e1
  obtain ⟨a2, e2, _, w2⟩ := DataW.trod_int Try.underlying3 h2
  simp at e2
  obtain ⟨a3, e3, _, w3⟩ := DataW.trod_int Try.underlying3 h3
  simp at e3
  obtain ⟨a4, e4, _, w4⟩ := DataW.trod_int Try.underlying22 h4
  simp at e4
  obtain ⟨a5, e5, _, w5⟩ := DataW.trod_int Try.underlying3 h5
  simp at e5
  obtain ⟨a6, e6, _, w6⟩ := DataW.trod_int Try.underlying3 h6
  simp at e6
  obtain ⟨a7, e7, _, w7⟩ := DataW.trod_int Try.underlying3 h7
  simp at e7
  obtain ⟨a10, e10, _, w10⟩ := DataW.trod_int Try.underlying22 h10
  simp at e10
  obtain ⟨a11, e11, _, w11⟩ := DataW.trod_int Try.underlying3 h11
  simp at e11
  obtain ⟨a8, a9, e8, e9, w8, w9⟩ := open_stamp h8
  obtain ⟨a12, a13, a14, a15, a16, a17, a18, a19, a20, e12, e13, e14, e15, e16, e17, e18, e19, e20, w12, w13, w14, w15, w16, w17, w18, w19, w20⟩ := open_ann h12
  subst e0 e1 e2 e3 e4 e5 e6 e7 e8 e9 e10 e11 e12 e13 e14 e15 e16 e17 e18 e19 e20
  exact ⟨⟨a0, a1, a2, a3, a4, a5, a6, a7, a8, a9, a10, a11, a12, a13, a14, a15, a16, a17, a18, a19, a20⟩, rfl, ⟨bounds_i64 w0, bounds_i64 w1, bounds_i64 w2, bounds_i64 w3, bounds_u64 w4, bounds_i64 w5, bounds_i64 w6, bounds_i64 w7, w8, w9, bounds_u64 w10, bounds_i64 w11, w12, w13, w14, w15, w16, w17, w18, w19, w20⟩⟩

theorem open_ptp {r : Reach} {b0 : Nat} {v : Value} {d : DataW H} {p : List MemPlace} (hval : Value.okWide Try.prog W r b0 28 v) (h : DataW.Trod enc Try.prog W base spare held 28 v d p) : ∃ q : Ptp, v = q.val ∧ q.In := by
  obtain ⟨cs, rfl, hsz⟩ := okWide_struct Try.underlying28 hval
  obtain ⟨fuel, hf⟩ := h
  obtain ⟨q, hq, hin⟩ := open_ptp_cells hf
  refine ⟨q, ?_, hin⟩
  unfold Ptp.val
  rw [← hq]
  simp [Value.cells]
end
end Go.Proofs.Ytlobddhpkemklaa
