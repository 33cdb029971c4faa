/- Arguments as they come in over the cookie seat: slices of bytes, keys.
  SEATS: cookie -/
import Derived.Test.YtdgjbaeflbggpaaBase
import Derived.Test.YtdgjbaeflbggpaaProg
import Derived.KernelRfl
import Derived.ProofKit
import Derived.Deep.Slices
import Derived.Deep.Fields
import Derived.ChangeSame
import Derived.OpenShut
import Derived.Lib.SmallJoins
namespace Go.Proofs.Ytdgjbaeflbggpaa
open Go.RowKit Go.ChangeShapes Go.WideShapes Go.Deep Go.Joins
set_option linter.unusedVariables false

theorem cells_u8 : Try.prog.cellsOf 5 = 1 := by kernel_rfl
theorem cells_u64 : Try.prog.cellsOf 22 = 1 := by kernel_rfl
theorem cells_key : Try.prog.cellsOf 24 = 2 := by kernel_rfl

section
variable {H : Type} {enc : TypeId × Value → H} {W : World} {base : Nat} {spare : Nat → Bool} {held : Bool}

theorem spot_none {w : World} {a : Addr} {v : Value} (h : w.cell? a = some v) : a.spot = none := by
  obtain ⟨b, o, s⟩ := a
  simpa using World.cell?_spot h

theorem open_rb {fuel : Nat} {A : Option Addr} {n c : Nat} {x : DataW H × List MemPlace} (h : DataW.trod enc Try.prog W base spare held fuel 30 [.slice A n c] = some x) : ∃ bs, RB W A n c bs := by
  rcases open_ints Try.underlying30 Try.underlying5 cells_u8 h with ⟨hcs, _⟩ | ⟨a, l, cp, zs, hcs, _, hl, hm, hz, _, hcell, hwz⟩
  · injection hcs with hcs
    injection hcs with e1 e2 e3
    subst e1 e2 e3
    exact ⟨[], RB.nil W⟩
  · injection hcs with hcs
    injection hcs with e1 e2 e3
    subst e1 e2 e3
    have hzl : n ≤ zs.length := by rw [hz]; split <;> omega
    refine ⟨(zs.take n).map fun z => UInt8.ofNat z.toNat, by simp; omega, hl, by simpa [maxLen] using hm, fun hn => ?_⟩
    have hc0 := hcell 0 (by omega)
    obtain ⟨b, o, s⟩ := a
    obtain rfl : s = none := by
      have := spot_none hc0
      simpa [Addr.add] using this
    refine ⟨b, o, rfl, ?_, fun j u hu => ?_⟩
    · have := World.block_lt_of_cell? W _ hc0
      simpa [Addr.add] using this
    · have hj : j < n := by
        have := (List.getElem?_eq_some_iff.1 hu).1
        simp [BV] at this
        omega
      have hcj := hcell j (by omega)
      rw [Addr.add_lit] at hcj
      rw [hcj]
      have hmem : zs[j]? = some (zs.getD j 0) := by simp [List.getD, List.getElem?_eq_getElem (show j < zs.length by omega)]
      have hb := bounds_u8 (hwz _ (List.mem_of_getElem? hmem))
      generalize zs.getD j 0 = z at *
      rw [← hu]
      rw [BV_get, List.getElem?_map, List.getElem?_take, if_pos hj, hmem]
      simp
      omega

theorem open_key {p : List MemPlace} {d : DataW H} {v : Value} {r : Reach} {b0 : Nat} (hval : Value.okWide Try.prog W r b0 24 v) (h : DataW.Trod enc Try.prog W base spare held 24 v d p) :
    ∃ a b : Int, v = .agg #[.int .u64 a, .int .u64 b] ∧ (0 ≤ a ∧ a ≤ 18446744073709551615) ∧ (0 ≤ b ∧ b ≤ 18446744073709551615) := by
  have hag : ∃ cs, v = .agg cs := by
    simp only [Value.okWide, Try.underlying24] at hval
    obtain ⟨cs, h1, _⟩ := hval
    exact ⟨cs, h1⟩
  obtain ⟨cs, rfl⟩ := hag
  obtain ⟨fuel, hf⟩ := h
  obtain ⟨ys, n, _, _, hlen, hyl, hi⟩ := DataW.trod_array Try.underlying24 hf
  rw [cells_key] at hlen
  obtain ⟨cs⟩ := cs
  simp only [Value.cells] at hlen hi
  match cs, hlen with
  | [c0, c1], _ =>
    have h0 := hi 0 (by omega)
    have h1 := hi 1 (by omega)
    rw [cells_u64] at h0 h1
    have hy0 : ys[0]? = some (ys[0]'(by omega)) := List.getElem?_eq_getElem _
    have hy1 : ys[1]? = some (ys[1]'(by omega)) := List.getElem?_eq_getElem _
    rw [hy0] at h0
    rw [hy1] at h1
    obtain ⟨a, ha, _, hw0⟩ := DataW.trod_int Try.underlying22 h0
    obtain ⟨b, hb, _, hw1⟩ := DataW.trod_int Try.underlying22 h1
    simp at ha hb
    subst ha hb
    exact ⟨a, b, rfl, bounds_u64 hw0, bounds_u64 hw1⟩
end
end Go.Proofs.Ytdgjbaeflbggpaa
