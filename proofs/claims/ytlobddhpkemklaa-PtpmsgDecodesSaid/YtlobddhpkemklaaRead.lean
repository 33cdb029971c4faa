/- The reader of bytes: NewReader, take, Uint. -/
import Derived.Test.YtlobddhpkemklaaWire
namespace Go.Proofs.Ytlobddhpkemklaa
open Go.RowKit
set_option linter.unusedVariables false

/-- The reader at block g, over the bytes bs in block h, of which p have been read. -/
structure Rdr (w : World) (g h : Nat) (bs : List UInt8) (p : Nat) : Prop where
  ne : g ≠ h
  le : p ≤ bs.length
  max : bs.length ≤ 70368744177664
  buf : Blk w h 5 (BV bs)
  cell : ∃ A, Blk w g 76 [.slice A (bs.length - p) (bs.length - p), .int .i64 0] ∧ (p < bs.length → A = some ⟨h, p, none⟩)

theorem newReader_any (A : Option Addr) (m c : Nat) (bs : List UInt8) (w : World) (h : RB w A m c bs) (hm : m ≤ 70368744177664) :
    Calls Try.prog 40 #[.slice A m c] w fun e w' => ∃ g h, e = .returned (.pointer (some ⟨g, 0, none⟩)) ∧ Rdr w' g h bs 0 ∧ w.heap.size ≤ g ∧ w.heap.size ≤ h ∧ Below w.heap.size w w' := by
  have Hl := hide h.len
  go_enter Try.func40, Try.ntmps40
  go_wp2_with (first
      | (refine make_bytes rfl (.tmp 5) rfl m _ rfl (by simp) (by omega) w.heap.size w (Below.refl _ _) (Nat.le_refl _) ?_
         intro w1 hb1 hB1 _ hz1)
      | (refine copy_bytes rfl (.tmp 12) (.tmp 13) rfl w.heap.size 0 m m _ A m c bs rfl rfl (hb1.alloc _) ((h.below hB1).alloc _) (by omega) (by simp) w.heap.size w (hB1.alloc (by omega) _) (Nat.le_refl _) ?_
         intro w2 hb2 hB2 hz2 hg2))
  go_ret
  have hl := Hl.out
  have hS := (Blk.new w1 76 [Value.slice (some ⟨w.heap.size, 0, none⟩) m m, .int .i64 0]).grown hg2 (by rw [hz1]; simp)
  rw [hz1] at hS
  refine ⟨w.heap.size + 1, w.heap.size, rfl, ⟨by omega, by omega, by omega, ?_, ⟨some ⟨w.heap.size, 0, none⟩, ?_, fun _ => rfl⟩⟩, by omega, by omega, hB2⟩
  · simpa using hb2
  · rw [Nat.sub_zero, hl]
    exact hS

theorem take_any (g h : Nat) (bs : List UInt8) (p : Nat) (n : Int) (w : World) (hr : Rdr w g h bs p) (h0 : 0 ≤ n) (hn : p + n ≤ bs.length) :
    Calls Try.prog 53 #[.pointer (some ⟨g, 0, none⟩), .int .i64 n, .bool true] w fun e w' => ∃ A c, e = .returned (.tuple #[.slice A n.toNat c, .bool true]) ∧
      RB w' A n.toNat c (sub bs p n.toNat) ∧ Rdr w' g h bs (p + n.toNat) ∧ w.grownBy w' (some g) := by
  obtain ⟨k, rfl⟩ := Int.eq_ofNat_of_zero_le h0
  rw [Int.toNat_natCast]
  obtain ⟨A, hg, hA⟩ := hr.cell
  have hc0 := hg.cell 0
  have hc1 := hg.cell 1
  have hf0 := hg.frozen 0
  have hle : k ≤ bs.length - p := by omega
  simp only [List.getElem?_cons_zero, List.getElem?_cons_succ] at hc0 hc1
  generalize hM : bs.length - p = M at *
  have HM := hide hM
  clear hM
  have hmx := hr.max
  have hM' : M ≤ 70368744177664 := by have := HM.out; omega
  have HA := hide hA
  have read : ∀ u c, k ≤ c → c ≤ M → RB (w.setCell ⟨g, 0, none⟩ u) A k c (sub bs p k) := by
    intro u c h1 h2
    have hM := HM.out
    refine ⟨sub_length bs p k (by omega), h1, by omega, fun hk => ⟨h, p, HA.out (by omega), ?_, fun j u' hu => ?_⟩⟩
    · have := (hr.buf.far (p := ⟨g, 0, none⟩) (fun e => hr.ne e.symm) u).lt
      exact this
    · rw [(hr.buf.far (p := ⟨g, 0, none⟩) (fun e => hr.ne e.symm) u).cell, ← hu]
      have hj : j < k := by
        have := (List.getElem?_eq_some_iff.1 hu).1
        rw [BV_length, sub_length bs p k (by omega)] at this
        exact this
      rw [BV_get, BV_get, sub, List.getElem?_take, if_pos hj, List.getElem?_drop]
  have rdr : ∀ A', (p + k < bs.length → A' = some ⟨h, p + k, none⟩) → Rdr (w.setCell ⟨g, 0, none⟩ (.slice A' (M - k) (M - k))) g h bs (p + k) := by
    intro A' hA'
    have hM := HM.out
    have hs := hg.set_ 0 (.slice A' (M - k) (M - k))
    refine ⟨hr.ne, by omega, hr.max, hr.buf.far (p := ⟨g, 0, none⟩) (fun e => hr.ne e.symm) _, ⟨A', ?_, hA'⟩⟩
    rw [show bs.length - (p + k) = M - k by omega]
    simpa using hs
  go_enter Try.func53, Try.ntmps53
  go_wp2
  · rename_i hk
    go_ret2
    have hM := HM.out
    have hr' := rdr A (fun hlt => by omega)
    rw [show M - k = 0 by omega] at hr'
    exact ⟨A, k, rfl, read _ k (by omega) (by omega), hr', grown_setCell _ _ _ _⟩
  · rename_i hk
    go_ret2
    have hM := HM.out
    exact ⟨A, M, rfl, read _ M (by omega) (by omega), rdr _ (fun hlt => by rw [HA.out (by omega)]; simp [Addr.add_lit]), grown_setCell _ _ _ _⟩

/-- The block of the reader alone has turned. -/
theorem uint_any (g h : Nat) (bs : List UInt8) (p : Nat) (s : Int) (w : World) (hr : Rdr w g h bs p) (h1 : 1 ≤ s) (h8 : s ≤ 8) (hn : p + s ≤ bs.length) :
    Calls Try.prog 41 #[.pointer (some ⟨g, 0, none⟩), .int .i64 s] w fun e w' => e = .returned (.int .u64 (ofBe (sub bs p s.toNat) : Nat)) ∧ Rdr w' g h bs (p + s.toNat) ∧ w.grownBy w' (some g) := by
  obtain ⟨k, rfl⟩ := Int.eq_ofNat_of_zero_le (show 0 ≤ s by omega)
  rw [Int.toNat_natCast]
  have hq : (decide (1 ≤ (k : Int)) && decide ((k : Int) ≤ 8)) = true := by simp; omega
  have Hs := hide (sub_length bs p k (by omega))
  go_enter Try.func41, Try.ntmps41
  go_wp2_with (first
    | (go_at_call 46; refine (right_any _ _).mono ?_; rintro e w' ⟨rfl, rfl⟩)
    | (go_at_call 53; refine (take_any g h bs p k _ hr (by omega) (by omega)).mono ?_; rintro e w1 ⟨A, c, rfl, hrb, hr1, hg1⟩; rw [Int.toNat_natCast] at hrb hr1 ⊢)
    | (go_at_call 34; refine (get_any A k c (sub bs p k) 0 k _ hrb (by omega) (by omega) (by omega) (by omega)).mono ?_; rintro e w' ⟨rfl, rfl⟩))
  go_ret
  refine ⟨?_, hr1, hg1⟩
  have := sub_sub0 bs p k
  exact congrArg (fun l => Ending.returned (.int .u64 ((ofBe l : Nat) : Int))) this
end Go.Proofs.Ytlobddhpkemklaa
