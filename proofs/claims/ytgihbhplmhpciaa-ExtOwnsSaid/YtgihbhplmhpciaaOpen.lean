/- Arguments as they come in: slices of bytes, of extension fields. -/
import Derived.Test.YtgihbhplmhpciaaExtW
import Derived.ProofKit
import Derived.Deep.Slices
import Derived.Deep.Fields
import Derived.ChangeSame
import Derived.OpenShut
import Derived.Lib.SmallJoins
namespace Go.Proofs.Ytgihbhplmhpciaa
open Go.RowKit Go.ChangeShapes Go.WideShapes Go.Deep Go.Joins
set_option linter.unusedVariables false

theorem cells_u8 : Try.prog.cellsOf 5 = 1 := by kernel_rfl
theorem cells_ext : Try.prog.cellsOf 27 = 2 := by kernel_rfl

section
variable {H : Type} {enc : TypeId × Value → H} {W : World} {base : Nat} {spare : Nat → Bool} {held : Bool}

theorem spot_none {w : World} {a : Addr} {v : Value} (h : w.cell? a = some v) : a.spot = none := by
  obtain ⟨b, o, s⟩ := a
  simpa using World.cell?_spot h

theorem open_rb {fuel : Nat} {A : Option Addr} {n c : Nat} {x : DataW H × List MemPlace} (h : DataW.trod enc Try.prog W base spare held fuel 22 [.slice A n c] = some x) : ∃ bs, RB W A n c bs := by
  rcases open_ints Try.underlying22 Try.underlying5 cells_u8 h with ⟨hcs, _⟩ | ⟨a, l, cp, zs, hcs, _, hl, hm, hz, _, hcell, hwz⟩
  · injection hcs with hcs
    injection hcs with e1 e2 e3
    subst e1 e2 e3
    exact ⟨[], RB.nil W⟩
  · injection hcs with hcs
    injection hcs with e1 e2 e3
    subst e1 e2 e3
    have hzl : n ≤ zs.length := by rw [hz]; split <;> omega
    refine ⟨(zs.take n).map fun z => UInt8.ofNat z.toNat, by simp; omega, hl, by simpa [maxLen] using hm, fun hn => ?_⟩
    have hc0 := hcell 0 (by omega)
    obtain ⟨b, o, s⟩ := a
    obtain rfl : s = none := by
      have := spot_none hc0
      simpa [Addr.add] using this
    refine ⟨b, o, rfl, ?_, fun j u hu => ?_⟩
    · have := World.block_lt_of_cell? W _ hc0
      simpa [Addr.add] using this
    · have hj : j < n := by
        have := (List.getElem?_eq_some_iff.1 hu).1
        simp [BV] at this
        omega
      have hcj := hcell j (by omega)
      rw [Addr.add_lit] at hcj
      rw [hcj]
      have hmem : zs[j]? = some (zs.getD j 0) := by simp [List.getD, List.getElem?_eq_getElem (show j < zs.length by omega)]
      have hb := bounds_u8 (hwz _ (List.mem_of_getElem? hmem))
      generalize zs.getD j 0 = z at *
      rw [← hu]
      rw [BV_get, List.getElem?_map, List.getElem?_take, if_pos hj, hmem]
      simp
      omega

theorem cells_int : Try.prog.cellsOf 3 = 1 := by kernel_rfl
theorem cells_u8s : Try.prog.cellsOf 22 = 1 := by kernel_rfl
theorem fields_ext : ∃ f0 f1 : Field, Try.prog.underlying 27 = some (.struct #[f0, f1]) ∧ f0.offset = 0 ∧ f0.type = 3 ∧ f1.offset = 1 ∧ f1.type = 22 := ⟨_, _, Try.underlying27, rfl, rfl, rfl, rfl⟩

theorem open_ext {fuel : Nat} {cs : List Value} {x : DataW H × List MemPlace} (h : DataW.trod enc Try.prog W base spare held fuel 27 cs = some x) :
    ∃ k A m c bs, cs = [.int .i64 k, .slice A m c] ∧ RB W A m c bs ∧ -9223372036854775808 ≤ k ∧ k ≤ 9223372036854775807 := by
  obtain ⟨f0, f1, hu, e0, t0, e1, t1⟩ := fields_ext
  obtain ⟨ys, n, _, _, hlen, hyl, hf⟩ := DataW.trod_struct hu h
  rw [cells_ext] at hlen
  match cs, hlen with
  | [c0, c1], _ =>
    have h0 := hf 0 f0 rfl
    have h1 := hf 1 f1 rfl
    rw [e0, t0, cells_int] at h0
    rw [e1, t1, cells_u8s] at h1
    have hy0 : ys[0]? = some (ys[0]'(by rw [hyl]; exact Nat.lt_of_sub_pos (by simp))) := List.getElem?_eq_getElem _
    have hy1 : ys[1]? = some (ys[1]'(by rw [hyl]; exact Nat.lt_of_sub_pos (by simp))) := List.getElem?_eq_getElem _
    rw [hy0] at h0
    rw [hy1] at h1
    obtain ⟨k, hk, _, hw⟩ := DataW.trod_int Try.underlying3 h0
    obtain ⟨A, m, c, hs⟩ := slice_form Try.underlying22 h1
    simp at hk hs
    subst hk hs
    obtain ⟨bs, hr⟩ := open_rb h1
    have hb := bounds_i64 hw
    exact ⟨k, A, m, c, bs, rfl, hr, by omega, by omega⟩

theorem open_re {fuel : Nat} {A : Option Addr} {n c : Nat} {x : DataW H × List MemPlace} (h : DataW.trod enc Try.prog W base spare held fuel 23 [.slice A n c] = some x) : ∃ l, RE W A n c l := by
  rcases open_slice Try.underlying23 h with ⟨hcs, _⟩ | ⟨a, l, cp, m, nn, D, Pl, hcs, _, hl, hm, hmm, _, hi⟩
  · injection hcs with hcs
    injection hcs with e1 e2 e3
    subst e1 e2 e3
    exact ⟨[], rfl, Nat.le_refl _, by omega, fun h => absurd h (by omega)⟩
  · injection hcs with hcs
    injection hcs with e1 e2 e3
    subst e1 e2 e3
    have hnm : n ≤ m := by rw [hmm]; split <;> omega
    have each : ∀ i : Nat, i < n → ∃ (e : Ext), ∃ (A' : Option Addr) (m' c' : Nat), W.cell? (a.add (i * 2)) = some (.int .i64 e.kind) ∧ W.cell? (a.add (i * 2 + 1)) = some (.slice A' m' c') ∧ RB W A' m' c' e.data ∧ -9223372036854775808 ≤ e.kind ∧ e.kind ≤ 9223372036854775807 := by
      intro i hin
      obtain ⟨cs', hc, ht⟩ := hi i (by omega)
      obtain ⟨k, A', m', c', bs, rfl, hr, hk⟩ := open_ext ht
      rw [cells_ext] at hc
      obtain ⟨_, _, hat⟩ := World.cells?_some hc
      have h0 := hat 0 (by omega)
      have h1 := hat 1 (by omega)
      rw [add_add] at h0 h1
      exact ⟨⟨k, bs⟩, A', m', c', h0, h1, hr, hk⟩
    obtain ⟨es, hel, hes⟩ := list_of n each
    have cell : ∀ i : Nat, i < n * 2 → ∃ v : Value, W.cell? (a.add i) = some v := by
      intro i hin
      obtain ⟨e, A', m', c', h0, h1, _⟩ := each (i / 2) (by omega)
      by_cases hpar : i % 2 = 0
      · rw [show i / 2 * 2 = i by omega] at h0
        exact ⟨_, h0⟩
      · rw [show i / 2 * 2 + 1 = i by omega] at h1
        exact ⟨_, h1⟩
    obtain ⟨xs, hxl, hxs⟩ := list_of (n * 2) cell
    refine ⟨es, hel, hl, by simpa [maxLen] using hm, fun hn => ?_⟩
    obtain ⟨v0, hv0⟩ := cell 0 (by omega)
    obtain ⟨b, o, s⟩ := a
    obtain rfl : s = none := by
      have := spot_none hv0
      simpa [Addr.add] using this
    simp only [Addr.add_lit] at hxs hv0 hes
    refine ⟨b, o, xs, rfl, World.block_lt_of_cell? W _ hv0, ⟨by rw [hxl, hel], fun j e he => ?_⟩, hxs⟩
    have hjn : j < n := by
      have := (List.getElem?_eq_some_iff.1 he).1
      omega
    obtain ⟨A', m', c', h0, h1, hr, hk⟩ := hes j e he
    obtain ⟨u0, hu0⟩ := get_some (l := xs) (k := j * 2) (by omega)
    obtain ⟨u1, hu1⟩ := get_some (l := xs) (k := j * 2 + 1) (by omega)
    have e0 := hxs _ _ hu0
    have e1 := hxs _ _ hu1
    rw [h0] at e0
    rw [h1] at e1
    injection e0 with e0
    injection e1 with e1
    subst e0 e1
    exact ⟨hk, hu0, A', m', c', hu1, hr⟩
end
end Go.Proofs.Ytgihbhplmhpciaa
