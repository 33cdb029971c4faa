/- Decode reads a header.
  SEATS: ext guard -/
import Derived.Test.YtgihbhplmhpciaaNtp
import Derived.Test.YtgihbhplmhpciaaReadI
import Derived.Laws.BitsAllLaws
import Derived.Deep.RegionHeld3
import Derived.Deep.DeepCutAuto
namespace Go.Proofs.Ytgihbhplmhpciaa
open Go.RowKit
set_option linter.unusedVariables false

/-- A number of the bytes. -/
def num (bs : List UInt8) (p k : Nat) : Nat := ofBe (sub bs p k)
theorem num_lt (bs : List UInt8) (p k : Nat) (h : p + k ≤ bs.length) : num bs p k < 256 ^ k := by
  have := ofBe_lt (sub bs p k)
  rwa [sub_length bs p k h] at this

/-- What Decode reads. -/
def ntpOf (bs : List UInt8) : Ntp :=
  ⟨(num bs 0 1 / 64 : Nat), (num bs 0 1 / 8 % 8 : Nat), (num bs 0 1 % 8 : Nat), num bs 1 1, sgn (num bs 2 1) 1, sgn (num bs 3 1) 1, num bs 4 4, num bs 8 4, num bs 12 4, num bs 16 8, num bs 24 8, num bs 32 8, num bs 40 8⟩
/-- Decode's error. -/
def ntpErr (bs : List UInt8) : Int := if bs.length < 48 then 5 else if num bs 0 1 / 8 % 8 = 0 ∨ 4 < num bs 0 1 / 8 % 8 then 8 else 0

theorem first_bits (F : Nat) (h : F < 256) : bits .and .i64 ((F : Int) / 8) 7 = ((F / 8 % 8 : Nat) : Int) ∧ bits .and .i64 (F : Int) 7 = ((F % 8 : Nat) : Int) ∧ (F : Int) / 64 = ((F / 64 : Nat) : Int) := by
  have key : ∀ x : Fin 256, bits .and .i64 ((x.val : Int) / 8) 7 = ((x.val / 8 % 8 : Nat) : Int) ∧ bits .and .i64 (x.val : Int) 7 = ((x.val % 8 : Nat) : Int) ∧ (x.val : Int) / 64 = ((x.val / 64 : Nat) : Int) := by decide +kernel
  exact key ⟨F, h⟩

theorem blk13 {w : World} {b t : Nat} {x0 x1 x2 x3 x4 x5 x6 x7 x8 x9 x10 x11 x12 : Value} (h : Blk w b t [x0, x1, x2, x3, x4, x5, x6, x7, x8, x9, x10, x11, x12]) : w.cell? ⟨b, 0, none⟩ = some x0 ∧ w.cell? ⟨b, 1, none⟩ = some x1 ∧ w.cell? ⟨b, 2, none⟩ = some x2 ∧ w.cell? ⟨b, 3, none⟩ = some x3 ∧ w.cell? ⟨b, 4, none⟩ = some x4 ∧ w.cell? ⟨b, 5, none⟩ = some x5 ∧ w.cell? ⟨b, 6, none⟩ = some x6 ∧ w.cell? ⟨b, 7, none⟩ = some x7 ∧ w.cell? ⟨b, 8, none⟩ = some x8 ∧ w.cell? ⟨b, 9, none⟩ = some x9 ∧ w.cell? ⟨b, 10, none⟩ = some x10 ∧ w.cell? ⟨b, 11, none⟩ = some x11 ∧ w.cell? ⟨b, 12, none⟩ = some x12 :=
  ⟨(h.cell 0).trans rfl, (h.cell 1).trans rfl, (h.cell 2).trans rfl, (h.cell 3).trans rfl, (h.cell 4).trans rfl, (h.cell 5).trans rfl, (h.cell 6).trans rfl, (h.cell 7).trans rfl, (h.cell 8).trans rfl, (h.cell 9).trans rfl, (h.cell 10).trans rfl, (h.cell 11).trans rfl, (h.cell 12).trans rfl⟩
theorem blk13f {w : World} {b t : Nat} {cs : List Value} (h : Blk w b t cs) : w.frozen? ⟨b, 0, none⟩ = false ∧ w.frozen? ⟨b, 1, none⟩ = false ∧ w.frozen? ⟨b, 2, none⟩ = false ∧ w.frozen? ⟨b, 3, none⟩ = false ∧ w.frozen? ⟨b, 4, none⟩ = false ∧ w.frozen? ⟨b, 5, none⟩ = false ∧ w.frozen? ⟨b, 6, none⟩ = false ∧ w.frozen? ⟨b, 7, none⟩ = false ∧ w.frozen? ⟨b, 8, none⟩ = false ∧ w.frozen? ⟨b, 9, none⟩ = false ∧ w.frozen? ⟨b, 10, none⟩ = false ∧ w.frozen? ⟨b, 11, none⟩ = false ∧ w.frozen? ⟨b, 12, none⟩ = false :=
  ⟨h.frozen 0, h.frozen 1, h.frozen 2, h.frozen 3, h.frozen 4, h.frozen 5, h.frozen 6, h.frozen 7, h.frozen 8, h.frozen 9, h.frozen 10, h.frozen 11, h.frozen 12⟩
theorem set13 {w : World} {b t : Nat} {x0 x1 x2 x3 x4 x5 x6 x7 x8 x9 x10 x11 x12 y0 y1 y2 y3 y4 y5 y6 y7 y8 y9 y10 y11 y12 : Value} (h : Blk w b t [x0, x1, x2, x3, x4, x5, x6, x7, x8, x9, x10, x11, x12]) : Blk (((((((((((((w.setCell ⟨b, 0, none⟩ y0).setCell ⟨b, 1, none⟩ y1).setCell ⟨b, 2, none⟩ y2).setCell ⟨b, 3, none⟩ y3).setCell ⟨b, 4, none⟩ y4).setCell ⟨b, 5, none⟩ y5).setCell ⟨b, 6, none⟩ y6).setCell ⟨b, 7, none⟩ y7).setCell ⟨b, 8, none⟩ y8).setCell ⟨b, 9, none⟩ y9).setCell ⟨b, 10, none⟩ y10).setCell ⟨b, 11, none⟩ y11).setCell ⟨b, 12, none⟩ y12) b t [y0, y1, y2, y3, y4, y5, y6, y7, y8, y9, y10, y11, y12] := by
  have := ((((((((((((h.set_ 0 y0).set_ 1 y1).set_ 2 y2).set_ 3 y3).set_ 4 y4).set_ 5 y5).set_ 6 y6).set_ 7 y7).set_ 8 y8).set_ 9 y9).set_ 10 y10).set_ 11 y11).set_ 12 y12
  exact this
theorem far13 {w : World} {b b' t : Nat} {cs : List Value} {y0 y1 y2 y3 y4 y5 y6 y7 y8 y9 y10 y11 y12 : Value} (h : Blk w b' t cs) (hne : b' ≠ b) : Blk (((((((((((((w.setCell ⟨b, 0, none⟩ y0).setCell ⟨b, 1, none⟩ y1).setCell ⟨b, 2, none⟩ y2).setCell ⟨b, 3, none⟩ y3).setCell ⟨b, 4, none⟩ y4).setCell ⟨b, 5, none⟩ y5).setCell ⟨b, 6, none⟩ y6).setCell ⟨b, 7, none⟩ y7).setCell ⟨b, 8, none⟩ y8).setCell ⟨b, 9, none⟩ y9).setCell ⟨b, 10, none⟩ y10).setCell ⟨b, 11, none⟩ y11).setCell ⟨b, 12, none⟩ y12) b' t cs :=
  ((((((((((((h.far (p := ⟨b, 0, none⟩) hne y0).far (p := ⟨b, 1, none⟩) hne y1).far (p := ⟨b, 2, none⟩) hne y2).far (p := ⟨b, 3, none⟩) hne y3).far (p := ⟨b, 4, none⟩) hne y4).far (p := ⟨b, 5, none⟩) hne y5).far (p := ⟨b, 6, none⟩) hne y6).far (p := ⟨b, 7, none⟩) hne y7).far (p := ⟨b, 8, none⟩) hne y8).far (p := ⟨b, 9, none⟩) hne y9).far (p := ⟨b, 10, none⟩) hne y10).far (p := ⟨b, 11, none⟩) hne y11).far (p := ⟨b, 12, none⟩) hne y12
theorem below13 {B : Nat} {w0 w : World} {b : Nat} (y0 y1 y2 y3 y4 y5 y6 y7 y8 y9 y10 y11 y12 : Value) (h : Below B w0 w) (hb : B ≤ b) : Below B w0 (((((((((((((w.setCell ⟨b, 0, none⟩ y0).setCell ⟨b, 1, none⟩ y1).setCell ⟨b, 2, none⟩ y2).setCell ⟨b, 3, none⟩ y3).setCell ⟨b, 4, none⟩ y4).setCell ⟨b, 5, none⟩ y5).setCell ⟨b, 6, none⟩ y6).setCell ⟨b, 7, none⟩ y7).setCell ⟨b, 8, none⟩ y8).setCell ⟨b, 9, none⟩ y9).setCell ⟨b, 10, none⟩ y10).setCell ⟨b, 11, none⟩ y11).setCell ⟨b, 12, none⟩ y12) :=
  ((((((((((((h.setCell (p := ⟨b, 0, none⟩) hb y0).setCell (p := ⟨b, 1, none⟩) hb y1).setCell (p := ⟨b, 2, none⟩) hb y2).setCell (p := ⟨b, 3, none⟩) hb y3).setCell (p := ⟨b, 4, none⟩) hb y4).setCell (p := ⟨b, 5, none⟩) hb y5).setCell (p := ⟨b, 6, none⟩) hb y6).setCell (p := ⟨b, 7, none⟩) hb y7).setCell (p := ⟨b, 8, none⟩) hb y8).setCell (p := ⟨b, 9, none⟩) hb y9).setCell (p := ⟨b, 10, none⟩) hb y10).setCell (p := ⟨b, 11, none⟩) hb y11).setCell (p := ⟨b, 12, none⟩) hb y12

theorem own_set {w : World} {base n c b i : Nat} {A : Option Addr} {bs : List UInt8} {u : Value} (h : OwnB w base A n c bs) (hb : b < base) : OwnB (w.setCell ⟨b, i, none⟩ u) base A n c bs :=
  World.ownsRow.kept h (grown_setCell w b i u) (by
    cases hk : (Value.slice A n c).ownBlock with
    | none => exact .inl rfl
    | some k => exact .inr (by
        have := own_base h k hk
        intro e
        injection e with e
        omega))
theorem own13 {w : World} {base n c b : Nat} {A : Option Addr} {bs : List UInt8} {y0 y1 y2 y3 y4 y5 y6 y7 y8 y9 y10 y11 y12 : Value} (h : OwnB w base A n c bs) (hb : b < base) : OwnB (((((((((((((w.setCell ⟨b, 0, none⟩ y0).setCell ⟨b, 1, none⟩ y1).setCell ⟨b, 2, none⟩ y2).setCell ⟨b, 3, none⟩ y3).setCell ⟨b, 4, none⟩ y4).setCell ⟨b, 5, none⟩ y5).setCell ⟨b, 6, none⟩ y6).setCell ⟨b, 7, none⟩ y7).setCell ⟨b, 8, none⟩ y8).setCell ⟨b, 9, none⟩ y9).setCell ⟨b, 10, none⟩ y10).setCell ⟨b, 11, none⟩ y11).setCell ⟨b, 12, none⟩ y12) base A n c bs :=
  own_set (own_set (own_set (own_set (own_set (own_set (own_set (own_set (own_set (own_set (own_set (own_set (own_set h hb) hb) hb) hb) hb) hb) hb) hb) hb) hb) hb) hb) hb

theorem zero_val : Ntp.zero.val = .agg #[.int .i64 0, .int .i64 0, .int .i64 0, .int .i64 0, .int .i64 0, .int .i64 0, .int .u32 0, .int .u32 0, .int .u32 0, .int .u64 0, .int .u64 0, .int .u64 0, .int .u64 0] := rfl

theorem ntpDecode_short (A : Option Addr) (m c : Nat) (bs : List UInt8) (w : World) (h : RB w A m c bs) (hm : m < 48) :
    Calls Try.prog 23 #[.slice A m c] w fun e w' => e = .returned (.tuple #[Ntp.zero.val, .slice none 0 0, .int .i64 5]) ∧ Below w.heap.size w w' := by
  rw [zero_val]
  go_enter Try.func23, Try.ntmps23
  go_wp2
  refine bodyPost_ret (v := .tuple #[.agg #[.int .i64 0, .int .i64 0, .int .i64 0, .int .i64 0, .int .i64 0, .int .i64 0, .int .u32 0, .int .u32 0, .int .u32 0, .int .u64 0, .int .u64 0, .int .u64 0, .int .u64 0], .slice none 0 0, .int .i64 5]) (by simp [results, Try.results23, go_sem]) rfl ⟨rfl, ?_⟩
  exact (Below.refl _ _).alloc (Nat.le_refl _) _

set_option maxHeartbeats 4000000 in
theorem ntpDecode_kind (A : Option Addr) (m c : Nat) (bs : List UInt8) (w : World) (h : RB w A m c bs) (hm : 48 ≤ m) (hm2 : m ≤ 70000000000000) (hk : num bs 0 1 / 8 % 8 = 0 ∨ 4 < num bs 0 1 / 8 % 8) :
    Calls Try.prog 23 #[.slice A m c] w fun e w' => e = .returned (.tuple #[Ntp.zero.val, .slice none 0 0, .int .i64 8]) ∧ Below w.heap.size w w' := by
  rw [zero_val]
  have hl : bs.length = m := h.len
  have hc := h.cap
  have hx := h.max
  have hF := num_lt bs 0 1 (by omega)
  have Hl := hide hl
  clear hl
  have hZ := Blk.new w 41 [.int .i64 0, .int .i64 0, .int .i64 0, .int .i64 0, .int .i64 0, .int .i64 0, .int .u32 0, .int .u32 0, .int .u32 0, .int .u64 0, .int .u64 0, .int .u64 0, .int .u64 0]
  have hA := (Below.refl w.heap.size w).alloc (Nat.le_refl _) (.cells #[.int .i64 0, .int .i64 0, .int .i64 0, .int .i64 0, .int .i64 0, .int .i64 0, .int .u32 0, .int .u32 0, .int .u32 0, .int .u64 0, .int .u64 0, .int .u64 0, .int .u64 0] 41)
  obtain ⟨F, hFe⟩ : ∃ F, F = num bs 0 1 := ⟨_, rfl⟩
  rw [← hFe] at hF hk
  have HF := hide hFe
  clear hFe
  obtain ⟨g1, g2, g3⟩ := first_bits F (by omega)
  obtain ⟨V, hV⟩ : ∃ V : Int, V = ((F / 8 % 8 : Nat) : Int) := ⟨_, rfl⟩
  obtain ⟨L, hL⟩ : ∃ L : Int, L = ((F / 64 : Nat) : Int) := ⟨_, rfl⟩
  obtain ⟨M, hM⟩ : ∃ M : Int, M = ((F % 8 : Nat) : Int) := ⟨_, rfl⟩
  have hV8 : V = 0 ∨ 4 < V ∧ (V == 0) = false := by
    rcases hk with h | h
    · exact .inl (by omega)
    · exact .inr ⟨by omega, by simp; omega⟩
  rw [← hV] at g1
  rw [← hL] at g3
  rw [← hM] at g2
  clear hV hL hM hk
  go_enter Try.func23, Try.ntmps23
  go_wp2_with fail
  refine (newReader_any A m c bs _ (h.alloc _) (by omega)).mono ?_
  rintro e w1 ⟨p, q, rfl, hR1, hp, hq, hB1⟩
  have hZ1 := hZ.below' hB1
  have hW1 := below_step hA hB1 hA.size
  simp only [World.size_alloc] at hp hq
  clear hB1 hA hZ
  go_wp2_with fail
  refine (uint_any p q bs 0 1 _ hR1 (by omega) (by omega) (by rw [Hl.out]; omega)).mono ?_
  rintro e w2 ⟨rfl, hR2, hG2⟩
  rw [show (1 : Int).toNat = 1 from rfl, show ofBe (sub bs 0 1) = F from HF.out.symm]
  have hZ2 := hZ1.grown hG2 (by simp; omega)
  have hW2 := hW1.grown hG2 hW1.size (by rintro k ⟨rfl⟩; omega)
  have hZ3 := hZ2.alloc (.cells #[.int .i64 L, .int .i64 V, .int .i64 M, .int .i64 0, .int .i64 0, .int .i64 0, .int .u32 0, .int .u32 0, .int .u32 0, .int .u64 0, .int .u64 0, .int .u64 0, .int .u64 0] 41)
  clear hZ1 hG2 hR1 hW1 hR2 hZ2
  have zc0 := hZ3.cell 0
  have zf0 := hZ3.frozen 0
  have zc1 := hZ3.cell 1
  have zf1 := hZ3.frozen 1
  have zc2 := hZ3.cell 2
  have zf2 := hZ3.frozen 2
  have zc3 := hZ3.cell 3
  have zf3 := hZ3.frozen 3
  have zc4 := hZ3.cell 4
  have zf4 := hZ3.frozen 4
  have zc5 := hZ3.cell 5
  have zf5 := hZ3.frozen 5
  have zc6 := hZ3.cell 6
  have zf6 := hZ3.frozen 6
  have zc7 := hZ3.cell 7
  have zf7 := hZ3.frozen 7
  have zc8 := hZ3.cell 8
  have zf8 := hZ3.frozen 8
  have zc9 := hZ3.cell 9
  have zf9 := hZ3.frozen 9
  have zc10 := hZ3.cell 10
  have zf10 := hZ3.frozen 10
  have zc11 := hZ3.cell 11
  have zf11 := hZ3.frozen 11
  have zc12 := hZ3.cell 12
  have zf12 := hZ3.frozen 12
  simp only [List.getElem?_cons_zero, List.getElem?_cons_succ] at zc0 zc1 zc2 zc3 zc4 zc5 zc6 zc7 zc8 zc9 zc10 zc11 zc12
  have hT := set13 (y0 := .int .i64 0) (y1 := .int .i64 0) (y2 := .int .i64 0) (y3 := .int .i64 0) (y4 := .int .i64 0) (y5 := .int .i64 0) (y6 := .int .u32 0) (y7 := .int .u32 0) (y8 := .int .u32 0) (y9 := .int .u64 0) (y10 := .int .u64 0) (y11 := .int .u64 0) (y12 := .int .u64 0) hZ3
  have HT := hide (blk13 hT)
  have hW3 := hW2.alloc hW2.size (.cells #[.int .i64 L, .int .i64 V, .int .i64 M, .int .i64 0, .int .i64 0, .int .i64 0, .int .u32 0, .int .u32 0, .int .u32 0, .int .u64 0, .int .u64 0, .int .u64 0, .int .u64 0] 41)
  clear hT
  rcases hV8 with rfl | ⟨h4, h40⟩
  all_goals
    go_wp2
    refine bodyPost_ret (v := .tuple #[.agg #[.int .i64 0, .int .i64 0, .int .i64 0, .int .i64 0, .int .i64 0, .int .i64 0, .int .u32 0, .int .u32 0, .int .u32 0, .int .u64 0, .int .u64 0, .int .u64 0, .int .u64 0], .slice none 0 0, .int .i64 8]) (by simp [results, Try.results23, go_sem, HT.out]) rfl ⟨rfl, ?_⟩
    exact below13 _ _ _ _ _ _ _ _ _ _ _ _ _ hW3 (Nat.le_refl _)
set_option maxHeartbeats 8000000 in
theorem ntpDecode_ok (A : Option Addr) (m K c : Nat) (bs : List UInt8) (w : World) (h : RB w A m c bs) (hmK : 48 + K = m) (hm2 : m ≤ 70000000000000) (hk : ¬ (num bs 0 1 / 8 % 8 = 0 ∨ 4 < num bs 0 1 / 8 % 8)) :
    Calls Try.prog 23 #[.slice A m c] w fun e w' => ∃ A' c', e = .returned (.tuple #[(ntpOf bs).val, .slice A' K c', .int .i64 0]) ∧ OwnB w' w.heap.size A' K c' (sub bs 48 K) ∧ Below w.heap.size w w' := by
  have hm : 48 ≤ m := by omega
  have hl : bs.length = m := h.len
  have hc := h.cap
  have hx := h.max
  have hF := num_lt bs 0 1 (by omega)
  have Hl := hide hl
  clear hl
  have hZ := Blk.new w 41 [.int .i64 0, .int .i64 0, .int .i64 0, .int .i64 0, .int .i64 0, .int .i64 0, .int .u32 0, .int .u32 0, .int .u32 0, .int .u64 0, .int .u64 0, .int .u64 0, .int .u64 0]
  have hA := (Below.refl w.heap.size w).alloc (Nat.le_refl _) (.cells #[.int .i64 0, .int .i64 0, .int .i64 0, .int .i64 0, .int .i64 0, .int .i64 0, .int .u32 0, .int .u32 0, .int .u32 0, .int .u64 0, .int .u64 0, .int .u64 0, .int .u64 0] 41)
  obtain ⟨g1, g2, g3⟩ := first_bits (num bs 0 1) (by omega)
  obtain ⟨V, hV⟩ : ∃ V : Int, V = ((num bs 0 1 / 8 % 8 : Nat) : Int) := ⟨_, rfl⟩
  obtain ⟨L, hL⟩ : ∃ L : Int, L = ((num bs 0 1 / 64 : Nat) : Int) := ⟨_, rfl⟩
  obtain ⟨M, hM⟩ : ∃ M : Int, M = ((num bs 0 1 % 8 : Nat) : Int) := ⟨_, rfl⟩
  have HV := hide hV
  have HL := hide hL
  have HM := hide hM
  have hV1 : 1 ≤ V ∧ V ≤ 4 := by omega
  obtain ⟨hV1, hV4⟩ := hV1
  have hV0 : (V == 0) = false := by simp; omega
  rw [← hV] at g1
  rw [← hL] at g3
  rw [← hM] at g2
  clear hV hL hM hk
  obtain ⟨F, hFe⟩ : ∃ F, F = num bs 0 1 := ⟨_, rfl⟩
  rw [← hFe] at hF g1 g2 g3
  have HF := hide hFe
  clear hFe
  obtain ⟨y3, hy3⟩ : ∃ y : Int, y = ((num bs 1 1 : Nat) : Int) := ⟨_, rfl⟩
  have Hy3 := hide hy3.symm
  have hb3 : 0 ≤ y3 ∧ y3 < 256 := by
    have := num_lt bs 1 1 (by have := Hl.out; omega)
    omega
  clear hy3
  obtain ⟨y4, hy4⟩ : ∃ y : Int, y = sgn (num bs 2 1) 1 := ⟨_, rfl⟩
  have Hy4 := hide hy4.symm
  clear hy4
  obtain ⟨y5, hy5⟩ : ∃ y : Int, y = sgn (num bs 3 1) 1 := ⟨_, rfl⟩
  have Hy5 := hide hy5.symm
  clear hy5
  obtain ⟨y6, hy6⟩ : ∃ y : Int, y = ((num bs 4 4 : Nat) : Int) := ⟨_, rfl⟩
  have Hy6 := hide hy6.symm
  have hb6 : 0 ≤ y6 ∧ y6 < 4294967296 := by
    have := num_lt bs 4 4 (by have := Hl.out; omega)
    omega
  clear hy6
  obtain ⟨y7, hy7⟩ : ∃ y : Int, y = ((num bs 8 4 : Nat) : Int) := ⟨_, rfl⟩
  have Hy7 := hide hy7.symm
  have hb7 : 0 ≤ y7 ∧ y7 < 4294967296 := by
    have := num_lt bs 8 4 (by have := Hl.out; omega)
    omega
  clear hy7
  obtain ⟨y8, hy8⟩ : ∃ y : Int, y = ((num bs 12 4 : Nat) : Int) := ⟨_, rfl⟩
  have Hy8 := hide hy8.symm
  have hb8 : 0 ≤ y8 ∧ y8 < 4294967296 := by
    have := num_lt bs 12 4 (by have := Hl.out; omega)
    omega
  clear hy8
  obtain ⟨y9, hy9⟩ : ∃ y : Int, y = ((num bs 16 8 : Nat) : Int) := ⟨_, rfl⟩
  have Hy9 := hide hy9.symm
  clear hy9
  obtain ⟨y10, hy10⟩ : ∃ y : Int, y = ((num bs 24 8 : Nat) : Int) := ⟨_, rfl⟩
  have Hy10 := hide hy10.symm
  clear hy10
  obtain ⟨y11, hy11⟩ : ∃ y : Int, y = ((num bs 32 8 : Nat) : Int) := ⟨_, rfl⟩
  have Hy11 := hide hy11.symm
  clear hy11
  obtain ⟨y12, hy12⟩ : ∃ y : Int, y = ((num bs 40 8 : Nat) : Int) := ⟨_, rfl⟩
  have Hy12 := hide hy12.symm
  clear hy12
  go_enter Try.func23, Try.ntmps23
  go_wp2_with fail
  refine (newReader_any A m c bs _ (h.alloc _) (by omega)).mono ?_
  rintro e w1 ⟨p, q, rfl, hR1, hp, hq, hB1⟩
  have hZ1 := hZ.below' hB1
  have hW1 := below_step hA hB1 hA.size
  simp only [World.size_alloc] at hp hq
  clear hB1 hA hZ
  go_wp2_with fail
  refine (uint_any p q bs 0 1 _ hR1 (by omega) (by omega) (by rw [Hl.out]; omega)).mono ?_
  rintro e w2 ⟨rfl, hR2, hG2⟩
  rw [show (1 : Int).toNat = 1 from rfl, show ofBe (sub bs 0 1) = F from HF.out.symm]
  rw [show (1 : Int).toNat = 1 from rfl] at hR2
  have hZ2 := hZ1.grown hG2 (by simp; omega)
  have hW2 := hW1.grown hG2 hW1.size (by rintro k ⟨rfl⟩; omega)
  have hpq := rdr_lt hR2
  have hwl := hW2.size
  obtain ⟨n1, n2, n3, n4⟩ : p ≠ w2.heap.size ∧ q ≠ w2.heap.size ∧ w.heap.size ≠ w2.heap.size ∧ w.heap.size ≠ p := ⟨by omega, by omega, by omega, by omega⟩
  have m1 : some w2.heap.size ≠ some p := by simp; omega
  have m2 : some w.heap.size ≠ some p := by simp; omega
  have m3 : ∀ k, some p = some k → w.heap.size ≤ k := by rintro k ⟨rfl⟩; omega
  have hN := Blk.new w2 41 [.int .i64 L, .int .i64 V, .int .i64 M, .int .i64 0, .int .i64 0, .int .i64 0, .int .u32 0, .int .u32 0, .int .u32 0, .int .u64 0, .int .u64 0, .int .u64 0, .int .u64 0]
  have hZ := hZ2.alloc (.cells #[.int .i64 L, .int .i64 V, .int .i64 M, .int .i64 0, .int .i64 0, .int .i64 0, .int .u32 0, .int .u32 0, .int .u32 0, .int .u64 0, .int .u64 0, .int .u64 0, .int .u64 0] 41)
  have hW := hW2.alloc hW2.size (.cells #[.int .i64 L, .int .i64 V, .int .i64 M, .int .i64 0, .int .i64 0, .int .i64 0, .int .u32 0, .int .u32 0, .int .u32 0, .int .u64 0, .int .u64 0, .int .u64 0, .int .u64 0] 41)
  have hR := rdr_below hR2 ((Below.refl _ w2).alloc (Nat.le_refl _) (.cells #[.int .i64 L, .int .i64 V, .int .i64 M, .int .i64 0, .int .i64 0, .int .i64 0, .int .u32 0, .int .u32 0, .int .u32 0, .int .u64 0, .int .u64 0, .int .u64 0, .int .u64 0] 41))
  have cV := hN.cell 1
  simp only [List.getElem?_cons_zero, List.getElem?_cons_succ] at cV
  clear hZ1 hG2 hR1 hW1 hR2 hZ2 hW2 hpq hp hq
  go_wp2_with fail
  refine (uint_any p q bs 1 1 _ hR (by omega) (by omega) (by rw [Hl.out]; omega)).mono ?_
  rintro e v3 ⟨rfl, hR1, hG⟩
  rw [show (1 : Int).toNat = 1 from rfl, show ((ofBe (sub bs 1 1) : Nat) : Int) = y3 from Hy3.out]
  rw [show (1 : Int).toNat = 1 from rfl] at hR1
  clear cV
  have hN := hN.grown hG m1
  have hZ := hZ.grown hG m2
  have hW := hW.grown hG hW.size m3
  have hR := hR1
  clear hG hR1
  have c3 := hN.cell 3
  have f3 := hN.frozen 3
  simp only [List.getElem?_cons_zero, List.getElem?_cons_succ] at c3
  have hN := hN.set_ 3 (.int .i64 y3)
  have hZ := hZ.far (p := ⟨w2.heap.size, 3, none⟩) n3 (.int .i64 y3)
  have hW := hW.setCell (p := ⟨w2.heap.size, 3, none⟩) hwl (.int .i64 y3)
  have hR := rdr_far (i := 3) hR n1 n2 (.int .i64 y3)
  simp only [List.set_cons_zero, List.set_cons_succ] at hN
  go_wp2_with fail
  refine (int_any p q bs 2 1 _ hR (by omega) (by rw [Hl.out]; omega)).mono ?_
  rintro e v4 ⟨rfl, hR1, hG⟩
  rw [show sgn (ofBe (sub bs 2 1)) 1 = y4 from Hy4.out]
  have hN := hN.grown hG m1
  have hZ := hZ.grown hG m2
  have hW := hW.grown hG hW.size m3
  have hR := hR1
  clear hG hR1
  go_wp2_with fail
  refine (int_any p q bs 3 1 _ hR (by omega) (by rw [Hl.out]; omega)).mono ?_
  rintro e v5 ⟨rfl, hR1, hG⟩
  rw [show sgn (ofBe (sub bs 3 1)) 1 = y5 from Hy5.out]
  have hN := hN.grown hG m1
  have hZ := hZ.grown hG m2
  have hW := hW.grown hG hW.size m3
  have hR := hR1
  clear hG hR1
  have c4 := hN.cell 4
  have f4 := hN.frozen 4
  have c5 := hN.cell 5
  have f5 := hN.frozen 5
  simp only [List.getElem?_cons_zero, List.getElem?_cons_succ] at c4 c5
  have hN := hN.set_ 4 (.int .i64 y4)
  have hZ := hZ.far (p := ⟨w2.heap.size, 4, none⟩) n3 (.int .i64 y4)
  have hW := hW.setCell (p := ⟨w2.heap.size, 4, none⟩) hwl (.int .i64 y4)
  have hR := rdr_far (i := 4) hR n1 n2 (.int .i64 y4)
  have hN := hN.set_ 5 (.int .i64 y5)
  have hZ := hZ.far (p := ⟨w2.heap.size, 5, none⟩) n3 (.int .i64 y5)
  have hW := hW.setCell (p := ⟨w2.heap.size, 5, none⟩) hwl (.int .i64 y5)
  have hR := rdr_far (i := 5) hR n1 n2 (.int .i64 y5)
  simp only [List.set_cons_zero, List.set_cons_succ] at hN
  go_wp2_with fail
  refine (uint_any p q bs 4 4 _ hR (by omega) (by omega) (by rw [Hl.out]; omega)).mono ?_
  rintro e v6 ⟨rfl, hR1, hG⟩
  rw [show (4 : Int).toNat = 4 from rfl, show ((ofBe (sub bs 4 4) : Nat) : Int) = y6 from Hy6.out]
  rw [show (4 : Int).toNat = 4 from rfl] at hR1
  have hN := hN.grown hG m1
  have hZ := hZ.grown hG m2
  have hW := hW.grown hG hW.size m3
  have hR := hR1
  clear hG hR1
  go_wp2_with fail
  refine (uint_any p q bs 8 4 _ hR (by omega) (by omega) (by rw [Hl.out]; omega)).mono ?_
  rintro e v7 ⟨rfl, hR1, hG⟩
  rw [show (4 : Int).toNat = 4 from rfl, show ((ofBe (sub bs 8 4) : Nat) : Int) = y7 from Hy7.out]
  rw [show (4 : Int).toNat = 4 from rfl] at hR1
  have hN := hN.grown hG m1
  have hZ := hZ.grown hG m2
  have hW := hW.grown hG hW.size m3
  have hR := hR1
  clear hG hR1
  go_wp2_with fail
  refine (uint_any p q bs 12 4 _ hR (by omega) (by omega) (by rw [Hl.out]; omega)).mono ?_
  rintro e v8 ⟨rfl, hR1, hG⟩
  rw [show (4 : Int).toNat = 4 from rfl, show ((ofBe (sub bs 12 4) : Nat) : Int) = y8 from Hy8.out]
  rw [show (4 : Int).toNat = 4 from rfl] at hR1
  have hN := hN.grown hG m1
  have hZ := hZ.grown hG m2
  have hW := hW.grown hG hW.size m3
  have hR := hR1
  clear hG hR1
  have c6 := hN.cell 6
  have f6 := hN.frozen 6
  have c7 := hN.cell 7
  have f7 := hN.frozen 7
  have c8 := hN.cell 8
  have f8 := hN.frozen 8
  simp only [List.getElem?_cons_zero, List.getElem?_cons_succ] at c6 c7 c8
  have hN := hN.set_ 6 (.int .u32 y6)
  have hZ := hZ.far (p := ⟨w2.heap.size, 6, none⟩) n3 (.int .u32 y6)
  have hW := hW.setCell (p := ⟨w2.heap.size, 6, none⟩) hwl (.int .u32 y6)
  have hR := rdr_far (i := 6) hR n1 n2 (.int .u32 y6)
  have hN := hN.set_ 7 (.int .u32 y7)
  have hZ := hZ.far (p := ⟨w2.heap.size, 7, none⟩) n3 (.int .u32 y7)
  have hW := hW.setCell (p := ⟨w2.heap.size, 7, none⟩) hwl (.int .u32 y7)
  have hR := rdr_far (i := 7) hR n1 n2 (.int .u32 y7)
  have hN := hN.set_ 8 (.int .u32 y8)
  have hZ := hZ.far (p := ⟨w2.heap.size, 8, none⟩) n3 (.int .u32 y8)
  have hW := hW.setCell (p := ⟨w2.heap.size, 8, none⟩) hwl (.int .u32 y8)
  have hR := rdr_far (i := 8) hR n1 n2 (.int .u32 y8)
  simp only [List.set_cons_zero, List.set_cons_succ] at hN
  go_wp2_with fail
  refine (uint_any p q bs 16 8 _ hR (by omega) (by omega) (by rw [Hl.out]; omega)).mono ?_
  rintro e v9 ⟨rfl, hR1, hG⟩
  rw [show (8 : Int).toNat = 8 from rfl, show ((ofBe (sub bs 16 8) : Nat) : Int) = y9 from Hy9.out]
  rw [show (8 : Int).toNat = 8 from rfl] at hR1
  have hN := hN.grown hG m1
  have hZ := hZ.grown hG m2
  have hW := hW.grown hG hW.size m3
  have hR := hR1
  clear hG hR1
  go_wp2_with fail
  refine (uint_any p q bs 24 8 _ hR (by omega) (by omega) (by rw [Hl.out]; omega)).mono ?_
  rintro e v10 ⟨rfl, hR1, hG⟩
  rw [show (8 : Int).toNat = 8 from rfl, show ((ofBe (sub bs 24 8) : Nat) : Int) = y10 from Hy10.out]
  rw [show (8 : Int).toNat = 8 from rfl] at hR1
  have hN := hN.grown hG m1
  have hZ := hZ.grown hG m2
  have hW := hW.grown hG hW.size m3
  have hR := hR1
  clear hG hR1
  go_wp2_with fail
  refine (uint_any p q bs 32 8 _ hR (by omega) (by omega) (by rw [Hl.out]; omega)).mono ?_
  rintro e v11 ⟨rfl, hR1, hG⟩
  rw [show (8 : Int).toNat = 8 from rfl, show ((ofBe (sub bs 32 8) : Nat) : Int) = y11 from Hy11.out]
  rw [show (8 : Int).toNat = 8 from rfl] at hR1
  have hN := hN.grown hG m1
  have hZ := hZ.grown hG m2
  have hW := hW.grown hG hW.size m3
  have hR := hR1
  clear hG hR1
  go_wp2_with fail
  refine (uint_any p q bs 40 8 _ hR (by omega) (by omega) (by rw [Hl.out]; omega)).mono ?_
  rintro e v12 ⟨rfl, hR1, hG⟩
  rw [show (8 : Int).toNat = 8 from rfl, show ((ofBe (sub bs 40 8) : Nat) : Int) = y12 from Hy12.out]
  rw [show (8 : Int).toNat = 8 from rfl] at hR1
  have hN := hN.grown hG m1
  have hZ := hZ.grown hG m2
  have hW := hW.grown hG hW.size m3
  have hR := hR1
  clear hG hR1
  have c9 := hN.cell 9
  have f9 := hN.frozen 9
  have c10 := hN.cell 10
  have f10 := hN.frozen 10
  have c11 := hN.cell 11
  have f11 := hN.frozen 11
  have c12 := hN.cell 12
  have f12 := hN.frozen 12
  simp only [List.getElem?_cons_zero, List.getElem?_cons_succ] at c9 c10 c11 c12
  have hN := hN.set_ 9 (.int .u64 y9)
  have hZ := hZ.far (p := ⟨w2.heap.size, 9, none⟩) n3 (.int .u64 y9)
  have hW := hW.setCell (p := ⟨w2.heap.size, 9, none⟩) hwl (.int .u64 y9)
  have hR := rdr_far (i := 9) hR n1 n2 (.int .u64 y9)
  have hN := hN.set_ 10 (.int .u64 y10)
  have hZ := hZ.far (p := ⟨w2.heap.size, 10, none⟩) n3 (.int .u64 y10)
  have hW := hW.setCell (p := ⟨w2.heap.size, 10, none⟩) hwl (.int .u64 y10)
  have hR := rdr_far (i := 10) hR n1 n2 (.int .u64 y10)
  have hN := hN.set_ 11 (.int .u64 y11)
  have hZ := hZ.far (p := ⟨w2.heap.size, 11, none⟩) n3 (.int .u64 y11)
  have hW := hW.setCell (p := ⟨w2.heap.size, 11, none⟩) hwl (.int .u64 y11)
  have hR := rdr_far (i := 11) hR n1 n2 (.int .u64 y11)
  have hN := hN.set_ 12 (.int .u64 y12)
  have hZ := hZ.far (p := ⟨w2.heap.size, 12, none⟩) n3 (.int .u64 y12)
  have hW := hW.setCell (p := ⟨w2.heap.size, 12, none⟩) hwl (.int .u64 y12)
  have hR := rdr_far (i := 12) hR n1 n2 (.int .u64 y12)
  simp only [List.set_cons_zero, List.set_cons_succ] at hN
  go_upto_region 12 with (fail)
  generalize ((((v12.setCell ⟨w2.heap.size, 9, none⟩ (.int .u64 y9)).setCell ⟨w2.heap.size, 10, none⟩ (.int .u64 y10)).setCell ⟨w2.heap.size, 11, none⟩ (.int .u64 y11)).setCell ⟨w2.heap.size, 12, none⟩ (.int .u64 y12)) = W at *
  clear c3 f3 c4 f4 c5 f5 c6 f6 c7 f7 c8 f8 c9 f9 c10 f10 c11 f11 c12 f12 hb3 hb6 hb7 hb8 g1 g2 g3 hV0 hV1 hV4 hF
  have HK := hide (show bs.length - (40 + 8) = K by rw [Hl.out]; omega)
  have Hn := hide (show 40 + 8 + K ≤ bs.length by rw [Hl.out]; omega)
  have hRd : Rdr W.drew p q bs (40 + 8) := rdr_below hR (Below.refl _ _).drew
  have hNd : Blk W.drew w2.heap.size 41 [.int .i64 L, .int .i64 V, .int .i64 M, .int .i64 y3, .int .i64 y4, .int .i64 y5, .int .u32 y6, .int .u32 y7, .int .u32 y8, .int .u64 y9, .int .u64 y10, .int .u64 y11, .int .u64 y12] := hN
  have hZd : Blk W.drew w.heap.size 41 [.int .i64 0, .int .i64 0, .int .i64 0, .int .i64 0, .int .i64 0, .int .i64 0, .int .u32 0, .int .u32 0, .int .u32 0, .int .u64 0, .int .u64 0, .int .u64 0, .int .u64 0] := hZ
  have hWd := hW.drew
  have hS0 := blk13 hNd
  have hNd_lt := hNd.lt
  have hwW : w.heap.size < W.drew.heap.size := Nat.lt_of_le_of_lt hwl hNd_lt
  clear hR hN hZ hW
  go_wp2
  go_region_held3 (fun w' => w'.cell? ⟨w2.heap.size, 0, none⟩ = some (.int .i64 L) ∧ w'.cell? ⟨w2.heap.size, 1, none⟩ = some (.int .i64 V) ∧ w'.cell? ⟨w2.heap.size, 2, none⟩ = some (.int .i64 M) ∧ w'.cell? ⟨w2.heap.size, 3, none⟩ = some (.int .i64 y3) ∧ w'.cell? ⟨w2.heap.size, 4, none⟩ = some (.int .i64 y4) ∧ w'.cell? ⟨w2.heap.size, 5, none⟩ = some (.int .i64 y5) ∧ w'.cell? ⟨w2.heap.size, 6, none⟩ = some (.int .u32 y6) ∧ w'.cell? ⟨w2.heap.size, 7, none⟩ = some (.int .u32 y7) ∧ w'.cell? ⟨w2.heap.size, 8, none⟩ = some (.int .u32 y8) ∧ w'.cell? ⟨w2.heap.size, 9, none⟩ = some (.int .u64 y9) ∧ w'.cell? ⟨w2.heap.size, 10, none⟩ = some (.int .u64 y10) ∧ w'.cell? ⟨w2.heap.size, 11, none⟩ = some (.int .u64 y11) ∧ w'.cell? ⟨w2.heap.size, 12, none⟩ = some (.int .u64 y12))
    (first | with_reducible exact hS0 | with_reducible exact hS8 | with_reducible exact blk13 (far13 hN8 n3.symm))
    (first
      | (go_at_call 38; refine (left_any p q bs (40 + 8) W.drew hRd).mono ?_; rintro e w7 ⟨rfl, rfl⟩; rw [HK.out])
      | (go_at_call 37; refine (bytes_any p q bs (40 + 8) K W.drew hRd Hn.out).mono ?_; rintro e w8 ⟨A8, c8, rfl, hown8, hR8, hG8⟩; have hN8 := hNd.grown hG8 m1; have hS8 := blk13 hN8; have hZ8 := hZd.grown hG8 m2; obtain ⟨u0, u1, u2, u3, u4, u5, u6, u7, u8, u9, u10, u11, u12⟩ := blk13 hZ8; obtain ⟨x0, x1, x2, x3, x4, x5, x6, x7, x8, x9, x10, x11, x12⟩ := blk13f hZ8))
  have hW8 := hWd.grown hG8 hWd.size m3
  have hown9 := own13 (b := w.heap.size) (y0 := .int .i64 L) (y1 := .int .i64 V) (y2 := .int .i64 M) (y3 := .int .i64 y3) (y4 := .int .i64 y4) (y5 := .int .i64 y5) (y6 := .int .u32 y6) (y7 := .int .u32 y7) (y8 := .int .u32 y8) (y9 := .int .u64 y9) (y10 := .int .u64 y10) (y11 := .int .u64 y11) (y12 := .int .u64 y12) hown8 hwW
  have hT := set13 (y0 := .int .i64 L) (y1 := .int .i64 V) (y2 := .int .i64 M) (y3 := .int .i64 y3) (y4 := .int .i64 y4) (y5 := .int .i64 y5) (y6 := .int .u32 y6) (y7 := .int .u32 y7) (y8 := .int .u32 y8) (y9 := .int .u64 y9) (y10 := .int .u64 y10) (y11 := .int .u64 y11) (y12 := .int .u64 y12) hZ8
  have HT := hide (blk13 hT)
  have hval : (ntpOf bs).val = .agg #[.int .i64 L, .int .i64 V, .int .i64 M, .int .i64 y3, .int .i64 y4, .int .i64 y5, .int .u32 y6, .int .u32 y7, .int .u32 y8, .int .u64 y9, .int .u64 y10, .int .u64 y11, .int .u64 y12] := by
    unfold ntpOf Ntp.val Ntp.cells
    rw [HL.out, HV.out, HM.out, ← Hy3.out, ← Hy4.out, ← Hy5.out, ← Hy6.out, ← Hy7.out, ← Hy8.out, ← Hy9.out, ← Hy10.out, ← Hy11.out, ← Hy12.out]
  clear hT hZ8 hN8 hZd hNd hS0 hS8 u0 u1 u2 u3 u4 u5 u6 u7 u8 u9 u10 u11 u12 x0 x1 x2 x3 x4 x5 x6 x7 x8 x9 x10 x11 x12
  go_wp2
  refine bodyPost_ret (v := .tuple #[.agg #[.int .i64 L, .int .i64 V, .int .i64 M, .int .i64 y3, .int .i64 y4, .int .i64 y5, .int .u32 y6, .int .u32 y7, .int .u32 y8, .int .u64 y9, .int .u64 y10, .int .u64 y11, .int .u64 y12], .slice A8 K c8, .int .i64 0]) (by simp [results, Try.results23, go_sem, HT.out]) rfl ⟨A8, c8, by rw [hval], hown9.mono (Nat.le_trans hwl (Nat.le_of_lt hNd_lt)), ?_⟩
  exact below13 _ _ _ _ _ _ _ _ _ _ _ _ _ hW8 (Nat.le_refl _)
end Go.Proofs.Ytgihbhplmhpciaa
