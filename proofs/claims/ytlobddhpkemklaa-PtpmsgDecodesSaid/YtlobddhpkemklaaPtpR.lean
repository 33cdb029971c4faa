/- read: a message of the right length.
  SEATS: ptp -/
import Derived.Test.YtlobddhpkemklaaPtpE
import Derived.Test.YtlobddhpkemklaaReadI
import Derived.Laws.BitsAllLaws
import Derived.Deep.DeepCutAuto
namespace Go.Proofs.Ytlobddhpkemklaa
open Go.RowKit
set_option linter.unusedVariables false

def num (bs : List UInt8) (p k : Nat) : Nat := ofBe (sub bs p k)
theorem num_lt (bs : List UInt8) (p k : Nat) (h : p + k ≤ bs.length) : num bs p k < 256 ^ k := by
  have := ofBe_lt (sub bs p k)
  rwa [sub_length bs p k h] at this

theorem skip_any (g h : Nat) (bs : List UInt8) (p k : Nat) (w : World) (hr : Rdr w g h bs p) (hn : p + k ≤ bs.length) :
    Calls Try.prog 48 #[.pointer (some ⟨g, 0, none⟩), .int .i64 (k : Nat)] w fun e w' => e = .returned (.tuple #[]) ∧ Rdr w' g h bs (p + k) ∧ w.grownBy w' (some g) := by
  go_enter Try.func48, Try.ntmps48
  go_wp2_with (go_at_call 53; refine (take_any g h bs p k _ hr (by omega) (by omega)).mono ?_; rintro e w1 ⟨A, c, rfl, hrb, hr1, hg1⟩)
  go_end0
  rw [Int.toNat_natCast] at hr1
  exact ⟨rfl, hr1, hg1⟩

theorem int8_any (g h : Nat) (bs : List UInt8) (p : Nat) (w : World) (hr : Rdr w g h bs p) (hn : p + 8 ≤ bs.length) :
    Calls Try.prog 49 #[.pointer (some ⟨g, 0, none⟩), .int .i64 8] w fun e w' => e = .returned (.int .i64 (sgn (ofBe (sub bs p 8)) 8)) ∧ Rdr w' g h bs (p + 8) ∧ w.grownBy w' (some g) := int_any g h bs p 8 w hr (by omega) hn
theorem rnum_any (cg p q : Nat) (bs : List UInt8) (P s : Nat) (w : World) (hc : Blk w cg 67 [.pointer (some ⟨p, 0, none⟩)]) (hr : Rdr w p q bs P) (h1 : 1 ≤ s) (h6 : s ≤ 6) (hn : P + s ≤ bs.length) :
    Calls Try.prog 47 #[.int .i64 (s : Nat), .pointer (some ⟨cg, 0, none⟩)] w fun e w' => e = .returned (.int .i64 (num bs P s : Nat)) ∧ Rdr w' p q bs (P + s) ∧ w.grownBy w' (some p) := by
  have k0 := hc.cell 0
  simp only [List.getElem?_cons_zero] at k0
  have hlt := num_lt bs P s hn
  have hle : 256 ^ s ≤ 256 ^ 6 := Nat.pow_le_pow_right (by omega) h6
  have hv : num bs P s ≤ 281474976710655 := by
    have : (256 : Nat) ^ 6 = 281474976710656 := rfl
    omega
  clear hlt hle
  go_enter Try.func47, Try.ntmps47
  go_wp2_with (go_at_call 41; refine (uint_any p q bs P s _ hr (by omega) (by omega) (by omega)).mono ?_; rintro e w1 ⟨rfl, hr1, hg1⟩; rw [Int.toNat_natCast] at hr1 ⊢; rw [show ofBe (sub bs P s) = num bs P s from rfl])
  go_ret
  exact ⟨rfl, hr1, hg1⟩

/-- What the bytes that are given amount to, one by one. -/
def zl (bs : List UInt8) (z : Int) (P : Nat) : Nat → Int
  | 0 => z
  | k + 1 => bits .or .i64 (zl bs z P k) (num bs (P + k) 1 : Nat)
def kindOf (bs : List UInt8) : Int := (num bs 0 1 : Nat)
def zeroHead (bs : List UInt8) : Int := bits .or .i64 (bits .or .i64 (num bs 5 1 : Nat) (num bs 16 4 : Nat)) (bits .xor .i64 (num bs 32 1 : Nat) (controlOf (kindOf bs)))
def zeroOr (bs : List UInt8) : Int :=
  if isReq (kindOf bs) = true then zeroHead bs else if kindOf bs = 11 then bits .or .i64 (zeroHead bs) (num bs 46 1 : Nat) else zl bs (zeroHead bs) 44 (bs.length - 44)
def ptpOf (bs : List UInt8) : Ptp :=
  { kind := kindOf bs, dom := (num bs 4 1 : Nat), flags := (num bs 6 2 : Nat), corr := sgn (num bs 8 8) 8, clock := (num bs 20 8 : Nat), port := (num bs 28 2 : Nat), seq := (num bs 30 2 : Nat), logi := sgn (num bs 33 1) 1, sec := (num bs 34 6 : Nat), nano := (num bs 40 4 : Nat),
    rclock := if isReq (kindOf bs) = true then (num bs 44 8 : Nat) else 0, rport := if isReq (kindOf bs) = true then (num bs 52 2 : Nat) else 0,
    utc := if kindOf bs = 11 then sgn (num bs 44 2) 2 else 0, p1 := if kindOf bs = 11 then (num bs 47 1 : Nat) else 0, cls := if kindOf bs = 11 then (num bs 48 1 : Nat) else 0, acc := if kindOf bs = 11 then (num bs 49 1 : Nat) else 0,
    var := if kindOf bs = 11 then (num bs 50 2 : Nat) else 0, p2 := if kindOf bs = 11 then (num bs 52 1 : Nat) else 0, gm := if kindOf bs = 11 then (num bs 53 8 : Nat) else 0, steps := if kindOf bs = 11 then (num bs 61 2 : Nat) else 0, src := if kindOf bs = 11 then (num bs 63 1 : Nat) else 0 }

theorem blk_setCells {t g : Nat} : ∀ (vs pre old : List Value) (w : World), Blk w g t (pre ++ old) → old.length = vs.length → Blk (w.setCells g pre.length vs) g t (pre ++ vs)
  | [], pre, old, w, h, hl => by
    obtain rfl : old = [] := List.eq_nil_of_length_eq_zero hl
    exact h
  | v :: vs, pre, x :: old, w, h, hl => by
    have h1 := h.set_ pre.length v
    have e : (pre ++ x :: old).set pre.length v = (pre ++ [v]) ++ old := by simp
    rw [e] at h1
    have := blk_setCells vs (pre ++ [v]) old _ h1 (by simpa using hl)
    rw [World.setCells]
    simpa using this
theorem there21 {w : World} {g t : Nat} {cs : List Value} (h : Blk w g t cs) (hl : cs.length = 21) : w.there g 0 21 := fun j hj => ⟨by rw [Nat.zero_add, h.cell, List.getElem?_eq_getElem (by omega)]; rfl, h.frozen _⟩
theorem blk_farCells {t g b : Nat} {cs : List Value} (hne : g ≠ b) : ∀ (vs : List Value) (o : Nat) (w : World), Blk w g t cs → Blk (w.setCells b o vs) g t cs
  | [], _, _, h => h
  | v :: vs, o, w, h => blk_farCells hne vs (o + 1) _ (h.far (p := ⟨b, o, none⟩) hne v)
theorem rdr_farCells {p q b n : Nat} {bs : List UInt8} (hp : p ≠ b) (hq : q ≠ b) : ∀ (vs : List Value) (o : Nat) (w : World), Rdr w p q bs n → Rdr (w.setCells b o vs) p q bs n
  | [], _, _, h => h
  | v :: vs, o, w, h => rdr_farCells hp hq vs (o + 1) _ (rdr_far (i := o) h hp hq v)
theorem blk1 {w : World} {g t : Nat} {v : Value} (h : Blk w g t [v]) : w.cell? ⟨g, 0, none⟩ = some v := (h.cell 0).trans rfl
def sliceLen : Option Value → Nat
  | some (.slice _ n _) => n
  | _ => 0
theorem rdr_len {w : World} {p q n : Nat} {bs : List UInt8} (h : Rdr w p q bs n) : sliceLen (w.cell? ⟨p, 0, none⟩) = bs.length - n := by
  obtain ⟨A, hc, hA⟩ := h.cell
  rw [show w.cell? ⟨p, 0, none⟩ = some (.slice A (bs.length - n) (bs.length - n)) from (hc.cell 0).trans rfl]
  rfl
theorem results21 {fn : Func} {tmps : Array Value} {g : Nat} {W : World} {cs : List Value} {v : Value} (h : fn.results = #[.cell 2 28, .tmp 3]) (hp : tmps[2]? = some (.pointer (some ⟨g, 0, none⟩))) (hv : tmps[3]? = some v) (hb : Blk W g 28 cs) (hl : cs.length = 21) :
    (results fn tmps).run Try.prog W = .ok (.tuple #[.agg cs.toArray, v]) W := by
  have hlv : (loadVar 28 ⟨g, 0, none⟩).run Try.prog W = .ok (.agg cs.toArray) W := run_loadVar_mid W g 0 28 cs _ (range21 hb) Try.underlying28 rfl (by rw [hl]; exact info21)
  simp [results, h, hp, hv, asAddr, hlv]
theorem req_size {k : Int} (h : isReq k = true) : sizeOfKind k = 54 ∧ k ≠ 11 := by
  unfold isReq at h
  simp only [Bool.or_eq_true, beq_iff_eq] at h
  rcases h with rfl | rfl | rfl <;> exact ⟨rfl, by omega⟩
theorem wpList_gen {P : Program} {ops : Array Oper} {rest : List Oper} {a : Act} {w : World} {Q : Exit → Act → World → Prop} (R : World → Prop) (hR : R w) (h : ∀ W, R W → wpList P ops Q rest a W) : wpList P ops Q rest a w := h w hR
theorem below_setCells {B : Nat} {w0 : World} {b : Nat} (hb : B ≤ b) : ∀ (vs : List Value) (o : Nat) (w : World), Below B w0 w → Below B w0 (w.setCells b o vs)
  | [], _, _, h => h
  | v :: vs, o, w, h => below_setCells hb vs (o + 1) _ (h.setCell (p := ⟨b, o, none⟩) hb v)

set_option maxHeartbeats 8000000 in
theorem read_any (A : Option Addr) (m c : Nat) (bs : List UInt8) (w : World) (h : RB w A m c bs) (h44 : 44 ≤ m) (hm : sizeOfKind (kindOf bs) = (m : Int)) :
    Calls Try.prog 35 #[.slice A m c] w fun e w' => e = .returned (.tuple #[(ptpOf bs).val, .bool (zeroOr bs == 0)]) ∧ Below w.heap.size w w' := by
  have hl : bs.length = m := h.len
  have hc := h.cap
  have hx := h.max
  have Hl := hide hl
  have Hm := hide hm
  have hm64 : m ≤ 64 := by
    unfold sizeOfKind at hm
    split at hm
    · omega
    · split at hm
      · omega
      · split at hm <;> omega
  clear hl hm
  have hZ0 := Blk.new w 28 [.int .i64 0, .int .i64 0, .int .i64 0, .int .i64 0, .int .u64 0, .int .i64 0, .int .i64 0, .int .i64 0, .int .i64 0, .int .i64 0, .int .u64 0, .int .i64 0, .int .i64 0, .int .i64 0, .int .i64 0, .int .i64 0, .int .i64 0, .int .i64 0, .int .u64 0, .int .i64 0, .int .i64 0]
  have hA := (Below.refl w.heap.size w).alloc (Nat.le_refl _) (.cells #[.int .i64 0, .int .i64 0, .int .i64 0, .int .i64 0, .int .u64 0, .int .i64 0, .int .i64 0, .int .i64 0, .int .i64 0, .int .i64 0, .int .u64 0, .int .i64 0, .int .i64 0, .int .i64 0, .int .i64 0, .int .i64 0, .int .i64 0, .int .i64 0, .int .u64 0, .int .i64 0, .int .i64 0] 28)
  obtain ⟨y0, hy0⟩ : ∃ y : Int, y = kindOf bs := ⟨_, rfl⟩
  have Hy0 := hide hy0
  have hb0 : 0 ≤ y0 ∧ y0 < 256 := by
    have := num_lt bs 0 1 (by have := Hl.out; omega)
    have e : kindOf bs = (num bs 0 1 : Nat) := rfl
    omega
  rw [← hy0] at Hm
  clear hy0
  go_enter Try.func35, Try.ntmps35
  go_wp2_with fail
  refine (newReader_any A m c bs _ (h.alloc _) (by omega)).mono ?_
  rintro e w1 ⟨p, q, rfl, hR1, hp, hq, hB1⟩
  have hZ1 := hZ0.below' hB1
  have hW1 := below_step hA hB1 hA.size
  simp only [World.size_alloc] at hp hq
  have hpq := rdr_lt hR1
  have hCn := Blk.new w1 67 [.pointer (some ⟨p, 0, none⟩)]
  have hRn := rdr_below hR1 ((Below.refl _ w1).alloc (Nat.le_refl _) (.cells #[.pointer (some ⟨p, 0, none⟩)] 67))
  have hZn := hZ1.alloc (.cells #[.pointer (some ⟨p, 0, none⟩)] 67)
  have hWn := hW1.alloc hW1.size (.cells #[.pointer (some ⟨p, 0, none⟩)] 67)
  have hws := hW1.size
  clear hB1 hA hZ0 hR1 hZ1 hW1
  go_wp2_with fail
  refine (rnum_any w1.heap.size p q bs 0 1 _ hCn hRn (by omega) (by omega) (by rw [Hl.out]; omega)).mono ?_
  rintro e w2 ⟨rfl, hR2, hG2⟩
  rw [show ((num bs 0 1 : Nat) : Int) = y0 from Hy0.out.symm]
  have hgs := hG2.size
  simp only [World.size_alloc] at hgs
  obtain ⟨n1, n2, n3, n4, n5, n6⟩ : p ≠ w2.heap.size ∧ q ≠ w2.heap.size ∧ w.heap.size ≠ w2.heap.size ∧ w1.heap.size ≠ w2.heap.size ∧ w.heap.size ≠ p ∧ w1.heap.size ≠ p := ⟨by omega, by omega, by omega, by omega, by omega, by omega⟩
  have m1 : some w2.heap.size ≠ some p := by simp; omega
  have m2 : some w.heap.size ≠ some p := by simp; omega
  have m3 : some w1.heap.size ≠ some p := by simp; omega
  have m4 : ∀ k, some p = some k → w.heap.size ≤ k := by rintro k ⟨rfl⟩; omega
  have hwl : w.heap.size ≤ w2.heap.size := by omega
  have hN0 := Blk.new w2 28 [.int .i64 0, .int .i64 0, .int .i64 0, .int .i64 0, .int .u64 0, .int .i64 0, .int .i64 0, .int .i64 0, .int .i64 0, .int .i64 0, .int .u64 0, .int .i64 0, .int .i64 0, .int .i64 0, .int .i64 0, .int .i64 0, .int .i64 0, .int .i64 0, .int .u64 0, .int .i64 0, .int .i64 0]
  have hN : Blk ((w2.alloc (.cells #[.int .i64 0, .int .i64 0, .int .i64 0, .int .i64 0, .int .u64 0, .int .i64 0, .int .i64 0, .int .i64 0, .int .i64 0, .int .i64 0, .int .u64 0, .int .i64 0, .int .i64 0, .int .i64 0, .int .i64 0, .int .i64 0, .int .i64 0, .int .i64 0, .int .u64 0, .int .i64 0, .int .i64 0] 28)).setCells w2.heap.size 0 [.int .i64 y0, .int .i64 0, .int .i64 0, .int .i64 0, .int .u64 0, .int .i64 0, .int .i64 0, .int .i64 0, .int .i64 0, .int .i64 0, .int .u64 0, .int .i64 0, .int .i64 0, .int .i64 0, .int .i64 0, .int .i64 0, .int .i64 0, .int .i64 0, .int .u64 0, .int .i64 0, .int .i64 0]) w2.heap.size 28 [.int .i64 y0, .int .i64 0, .int .i64 0, .int .i64 0, .int .u64 0, .int .i64 0, .int .i64 0, .int .i64 0, .int .i64 0, .int .i64 0, .int .u64 0, .int .i64 0, .int .i64 0, .int .i64 0, .int .i64 0, .int .i64 0, .int .i64 0, .int .i64 0, .int .u64 0, .int .i64 0, .int .i64 0] := blk_setCells [.int .i64 y0, .int .i64 0, .int .i64 0, .int .i64 0, .int .u64 0, .int .i64 0, .int .i64 0, .int .i64 0, .int .i64 0, .int .i64 0, .int .u64 0, .int .i64 0, .int .i64 0, .int .i64 0, .int .i64 0, .int .i64 0, .int .i64 0, .int .i64 0, .int .u64 0, .int .i64 0, .int .i64 0] [] [.int .i64 0, .int .i64 0, .int .i64 0, .int .i64 0, .int .u64 0, .int .i64 0, .int .i64 0, .int .i64 0, .int .i64 0, .int .i64 0, .int .u64 0, .int .i64 0, .int .i64 0, .int .i64 0, .int .i64 0, .int .i64 0, .int .i64 0, .int .i64 0, .int .u64 0, .int .i64 0, .int .i64 0] _ hN0 rfl
  have hZ := blk_farCells n3 [.int .i64 y0, .int .i64 0, .int .i64 0, .int .i64 0, .int .u64 0, .int .i64 0, .int .i64 0, .int .i64 0, .int .i64 0, .int .i64 0, .int .u64 0, .int .i64 0, .int .i64 0, .int .i64 0, .int .i64 0, .int .i64 0, .int .i64 0, .int .i64 0, .int .u64 0, .int .i64 0, .int .i64 0] 0 _ ((hZn.grown hG2 m2).alloc (.cells #[.int .i64 0, .int .i64 0, .int .i64 0, .int .i64 0, .int .u64 0, .int .i64 0, .int .i64 0, .int .i64 0, .int .i64 0, .int .i64 0, .int .u64 0, .int .i64 0, .int .i64 0, .int .i64 0, .int .i64 0, .int .i64 0, .int .i64 0, .int .i64 0, .int .u64 0, .int .i64 0, .int .i64 0] 28))
  have hC := blk_farCells n4 [.int .i64 y0, .int .i64 0, .int .i64 0, .int .i64 0, .int .u64 0, .int .i64 0, .int .i64 0, .int .i64 0, .int .i64 0, .int .i64 0, .int .u64 0, .int .i64 0, .int .i64 0, .int .i64 0, .int .i64 0, .int .i64 0, .int .i64 0, .int .i64 0, .int .u64 0, .int .i64 0, .int .i64 0] 0 _ ((hCn.grown hG2 m3).alloc (.cells #[.int .i64 0, .int .i64 0, .int .i64 0, .int .i64 0, .int .u64 0, .int .i64 0, .int .i64 0, .int .i64 0, .int .i64 0, .int .i64 0, .int .u64 0, .int .i64 0, .int .i64 0, .int .i64 0, .int .i64 0, .int .i64 0, .int .i64 0, .int .i64 0, .int .u64 0, .int .i64 0, .int .i64 0] 28))
  have hR := rdr_farCells n1 n2 [.int .i64 y0, .int .i64 0, .int .i64 0, .int .i64 0, .int .u64 0, .int .i64 0, .int .i64 0, .int .i64 0, .int .i64 0, .int .i64 0, .int .u64 0, .int .i64 0, .int .i64 0, .int .i64 0, .int .i64 0, .int .i64 0, .int .i64 0, .int .i64 0, .int .u64 0, .int .i64 0, .int .i64 0] 0 _ (rdr_below hR2 ((Below.refl _ w2).alloc (Nat.le_refl _) (.cells #[.int .i64 0, .int .i64 0, .int .i64 0, .int .i64 0, .int .u64 0, .int .i64 0, .int .i64 0, .int .i64 0, .int .i64 0, .int .i64 0, .int .u64 0, .int .i64 0, .int .i64 0, .int .i64 0, .int .i64 0, .int .i64 0, .int .i64 0, .int .i64 0, .int .u64 0, .int .i64 0, .int .i64 0] 28)))
  have hW2 := hWn.grown hG2 hWn.size m4
  have hW := below_setCells hwl [.int .i64 y0, .int .i64 0, .int .i64 0, .int .i64 0, .int .u64 0, .int .i64 0, .int .i64 0, .int .i64 0, .int .i64 0, .int .i64 0, .int .u64 0, .int .i64 0, .int .i64 0, .int .i64 0, .int .i64 0, .int .i64 0, .int .i64 0, .int .i64 0, .int .u64 0, .int .i64 0, .int .i64 0] 0 _ (hW2.alloc hW2.size (.cells #[.int .i64 0, .int .i64 0, .int .i64 0, .int .i64 0, .int .u64 0, .int .i64 0, .int .i64 0, .int .i64 0, .int .i64 0, .int .i64 0, .int .u64 0, .int .i64 0, .int .i64 0, .int .i64 0, .int .i64 0, .int .i64 0, .int .i64 0, .int .i64 0, .int .u64 0, .int .i64 0, .int .i64 0] 28))
  have hth := there21 hN0 rfl
  clear hCn hRn hZn hWn hR2 hG2 hW2 hpq hp hq hgs hN0
  obtain ⟨y_dom, h_dom⟩ : ∃ y : Int, y = ((num bs 4 1 : Nat) : Int) := ⟨_, rfl⟩
  have H_dom := hide h_dom.symm
  clear h_dom
  obtain ⟨y_z5, h_z5⟩ : ∃ y : Int, y = ((num bs 5 1 : Nat) : Int) := ⟨_, rfl⟩
  have H_z5 := hide h_z5.symm
  clear h_z5
  obtain ⟨y_flags, h_flags⟩ : ∃ y : Int, y = ((num bs 6 2 : Nat) : Int) := ⟨_, rfl⟩
  have H_flags := hide h_flags.symm
  clear h_flags
  obtain ⟨y_corr, h_corr⟩ : ∃ y : Int, y = sgn (num bs 8 8) 8 := ⟨_, rfl⟩
  have H_corr := hide h_corr.symm
  clear h_corr
  obtain ⟨y_z16, h_z16⟩ : ∃ y : Int, y = ((num bs 16 4 : Nat) : Int) := ⟨_, rfl⟩
  have H_z16 := hide h_z16.symm
  clear h_z16
  obtain ⟨y_clock, h_clock⟩ : ∃ y : Int, y = ((num bs 20 8 : Nat) : Int) := ⟨_, rfl⟩
  have H_clock := hide h_clock.symm
  clear h_clock
  obtain ⟨y_port, h_port⟩ : ∃ y : Int, y = ((num bs 28 2 : Nat) : Int) := ⟨_, rfl⟩
  have H_port := hide h_port.symm
  clear h_port
  obtain ⟨y_seq, h_seq⟩ : ∃ y : Int, y = ((num bs 30 2 : Nat) : Int) := ⟨_, rfl⟩
  have H_seq := hide h_seq.symm
  clear h_seq
  obtain ⟨y_z32, h_z32⟩ : ∃ y : Int, y = ((num bs 32 1 : Nat) : Int) := ⟨_, rfl⟩
  have H_z32 := hide h_z32.symm
  clear h_z32
  obtain ⟨y_logi, h_logi⟩ : ∃ y : Int, y = sgn (num bs 33 1) 1 := ⟨_, rfl⟩
  have H_logi := hide h_logi.symm
  clear h_logi
  obtain ⟨y_sec, h_sec⟩ : ∃ y : Int, y = ((num bs 34 6 : Nat) : Int) := ⟨_, rfl⟩
  have H_sec := hide h_sec.symm
  clear h_sec
  obtain ⟨y_nano, h_nano⟩ : ∃ y : Int, y = ((num bs 40 4 : Nat) : Int) := ⟨_, rfl⟩
  have H_nano := hide h_nano.symm
  clear h_nano
  have hP0 : _ ∧ _ ∧ _ ∧ _ ∧ _ := ⟨hN, hZ, hC, hR, hW⟩
  have hone : (#[.int .i64 y0, .int .i64 0, .int .i64 0, .int .i64 0, .int .u64 0, .int .i64 0, .int .i64 0, .int .i64 0, .int .i64 0, .int .i64 0, .int .u64 0, .int .i64 0, .int .i64 0, .int .i64 0, .int .i64 0, .int .i64 0, .int .i64 0, .int .i64 0, .int .u64 0, .int .i64 0, .int .i64 0] : Array Value).all (·.oneCell') = true := all_oneCell_toArray (by repeat (first | exact List.forall_mem_nil _ | refine List.forall_mem_cons.2 ⟨rfl, ?_⟩))
  clear hN hZ hC hR hW
  go_wp2_with (refine wpList_store_mid rfl 28 _ _ rfl _ 0 _ rfl rfl hth info21 hone ?_; refine wpList_gen (fun W => Blk W w2.heap.size 28 [.int .i64 y0, .int .i64 0, .int .i64 0, .int .i64 0, .int .u64 0, .int .i64 0, .int .i64 0, .int .i64 0, .int .i64 0, .int .i64 0, .int .u64 0, .int .i64 0, .int .i64 0, .int .i64 0, .int .i64 0, .int .i64 0, .int .i64 0, .int .i64 0, .int .u64 0, .int .i64 0, .int .i64 0] ∧ Blk W w.heap.size 28 [.int .i64 0, .int .i64 0, .int .i64 0, .int .i64 0, .int .u64 0, .int .i64 0, .int .i64 0, .int .i64 0, .int .i64 0, .int .i64 0, .int .u64 0, .int .i64 0, .int .i64 0, .int .i64 0, .int .i64 0, .int .i64 0, .int .i64 0, .int .i64 0, .int .u64 0, .int .i64 0, .int .i64 0] ∧ Blk W w1.heap.size 67 [.pointer (some ⟨p, 0, none⟩)] ∧ Rdr W p q bs (0 + 1) ∧ Below w.heap.size w W) hP0 ?_; rintro W0 ⟨hN, hZ, hC, hR, hW⟩; have hc0 := hC.cell 0; simp only [List.getElem?_cons_zero] at hc0)
  refine (skip_any p q bs 1 3 _ hR (by rw [Hl.out]; omega)).mono ?_
  rintro e vs ⟨rfl, hR1, hG⟩
  clear hc0 hth hP0 hone
  have hN := hN.grown hG m1
  have hZ := hZ.grown hG m2
  have hC := hC.grown hG m3
  have hW := hW.grown hG hW.size m4
  have hR := hR1
  clear hG hR1
  go_wp2_with fail
  refine (rnum_any w1.heap.size p q bs 4 1 _ hC hR (by omega) (by omega) (by rw [Hl.out]; omega)).mono ?_
  rintro e v0 ⟨rfl, hR1, hG⟩
  rw [show ((num bs 4 1 : Nat) : Int) = y_dom from H_dom.out]
  have hN := hN.grown hG m1
  have hZ := hZ.grown hG m2
  have hC := hC.grown hG m3
  have hW := hW.grown hG hW.size m4
  have hR := hR1
  clear hG hR1
  have c1 := hN.cell 1
  have f1 := hN.frozen 1
  simp only [List.getElem?_cons_zero, List.getElem?_cons_succ] at c1
  have hN := hN.set_ 1 (.int .i64 y_dom)
  have hZ := hZ.far (p := ⟨w2.heap.size, 1, none⟩) n3 (.int .i64 y_dom)
  have hC := hC.far (p := ⟨w2.heap.size, 1, none⟩) n4 (.int .i64 y_dom)
  have hW := hW.setCell (p := ⟨w2.heap.size, 1, none⟩) hwl (.int .i64 y_dom)
  have hR := rdr_far (i := 1) hR n1 n2 (.int .i64 y_dom)
  simp only [List.set_cons_zero, List.set_cons_succ] at hN
  go_wp2_with fail
  refine (rnum_any w1.heap.size p q bs 5 1 _ hC hR (by omega) (by omega) (by rw [Hl.out]; omega)).mono ?_
  rintro e v1 ⟨rfl, hR1, hG⟩
  rw [show ((num bs 5 1 : Nat) : Int) = y_z5 from H_z5.out]
  have hN := hN.grown hG m1
  have hZ := hZ.grown hG m2
  have hC := hC.grown hG m3
  have hW := hW.grown hG hW.size m4
  have hR := hR1
  clear hG hR1
  clear c1 f1
  have L7 := hide (show 6 + 2 ≤ bs.length by rw [Hl.out]; omega)
  have L8 := hide (show 6 + 2 + 8 ≤ bs.length by rw [Hl.out]; omega)
  have R12 := hide (show 1 ≤ 2 by omega)
  have R26 := hide (show 2 ≤ 6 by omega)
  have hRd : Rdr v1.drew p q bs (5 + 1) := rdr_below hR (Below.refl _ _).drew
  have hCd : Blk v1.drew w1.heap.size 67 [.pointer (some ⟨p, 0, none⟩)] := hC
  have hNd : Blk v1.drew w2.heap.size 28 [.int .i64 y0, .int .i64 y_dom, .int .i64 0, .int .i64 0, .int .u64 0, .int .i64 0, .int .i64 0, .int .i64 0, .int .i64 0, .int .i64 0, .int .u64 0, .int .i64 0, .int .i64 0, .int .i64 0, .int .i64 0, .int .i64 0, .int .i64 0, .int .i64 0, .int .u64 0, .int .i64 0, .int .i64 0] := hN
  have hcd : v1.drew.cell? ⟨w1.heap.size, 0, none⟩ = some (.pointer (some ⟨p, 0, none⟩)) := (hCd.cell 0).trans rfl
  go_wp2
  go_region_held3 (fun w' => w'.cell? ⟨w1.heap.size, 0, none⟩ = some (.pointer (some ⟨p, 0, none⟩)))
    (first | with_reducible exact hcd | with_reducible exact hca | with_reducible exact hcb | with_reducible exact blk1 (Blk.far (p := ⟨w2.heap.size, 2, none⟩) hCb n4 _) | with_reducible exact blk1 (Blk.far (p := ⟨w2.heap.size, 3, none⟩) (Blk.far (p := ⟨w2.heap.size, 2, none⟩) hCb n4 _) n4 _))
    (first
      | (go_at_call 47; refine (rnum_any w1.heap.size p q bs 6 2 v1.drew hCd hRd R12.out R26.out L7.out).mono ?_; rintro e va ⟨rfl, hRa, hGa⟩; rw [show ((num bs 6 2 : Nat) : Int) = y_flags from H_flags.out]; have hCa := hCd.grown hGa m3; have hca := blk1 hCa)
      | (go_at_call 49; refine (int8_any p q bs (6 + 2) va hRa L8.out).mono ?_; rintro e vb ⟨rfl, hRb, hGb⟩; rw [show sgn (ofBe (sub bs (6 + 2) 8)) 8 = y_corr from H_corr.out]; have hCb := hCa.grown hGb m3; have hcb := blk1 hCb; have hNb := (hNd.grown hGa m1).grown hGb m1; have c2 : vb.cell? ⟨w2.heap.size, 2, none⟩ = some (.int .i64 0) := (hNb.cell 2).trans rfl; have c3 : vb.cell? ⟨w2.heap.size, 3, none⟩ = some (.int .i64 0) := (hNb.cell 3).trans rfl; have f2 := hNb.frozen 2; have f3 := hNb.frozen 3))
  have hZd : Blk v1.drew w.heap.size 28 [.int .i64 0, .int .i64 0, .int .i64 0, .int .i64 0, .int .u64 0, .int .i64 0, .int .i64 0, .int .i64 0, .int .i64 0, .int .i64 0, .int .u64 0, .int .i64 0, .int .i64 0, .int .i64 0, .int .i64 0, .int .i64 0, .int .i64 0, .int .i64 0, .int .u64 0, .int .i64 0, .int .i64 0] := hZ
  have hZb := (hZd.grown hGa m2).grown hGb m2
  have hWd := hW.drew
  have hWa := hWd.grown hGa hWd.size m4
  have hWb := hWa.grown hGb hWa.size m4
  have hN := (hNb.set_ 2 (.int .i64 y_flags)).set_ 3 (.int .i64 y_corr)
  simp only [List.set_cons_zero, List.set_cons_succ] at hN
  have hZ := (hZb.far (p := ⟨w2.heap.size, 2, none⟩) n3 (.int .i64 y_flags)).far (p := ⟨w2.heap.size, 3, none⟩) n3 (.int .i64 y_corr)
  have hC := (hCb.far (p := ⟨w2.heap.size, 2, none⟩) n4 (.int .i64 y_flags)).far (p := ⟨w2.heap.size, 3, none⟩) n4 (.int .i64 y_corr)
  have hW := (hWb.setCell (p := ⟨w2.heap.size, 2, none⟩) hwl (.int .i64 y_flags)).setCell (p := ⟨w2.heap.size, 3, none⟩) hwl (.int .i64 y_corr)
  have hR := rdr_far (i := 3) (rdr_far (i := 2) hRb n1 n2 (.int .i64 y_flags)) n1 n2 (.int .i64 y_corr)
  clear hRd hCd hNd hcd hca hcb hCa hCb hNb hZd hZb hWd hWa hWb hRa hRb hGa hGb c2 c3 f2 f3 L7 L8
  generalize (vb.setCell ⟨w2.heap.size, 2, none⟩ (.int .i64 y_flags)).setCell ⟨w2.heap.size, 3, none⟩ (.int .i64 y_corr) = W7 at *
  go_wp2_with fail
  refine (rnum_any w1.heap.size p q bs 16 4 _ hC hR (by omega) (by omega) (by rw [Hl.out]; omega)).mono ?_
  rintro e v2 ⟨rfl, hR1, hG⟩
  rw [show ((num bs 16 4 : Nat) : Int) = y_z16 from H_z16.out]
  have hN := hN.grown hG m1
  have hZ := hZ.grown hG m2
  have hC := hC.grown hG m3
  have hW := hW.grown hG hW.size m4
  have hR := hR1
  clear hG hR1
  have hc0 := hC.cell 0
  simp only [List.getElem?_cons_zero] at hc0
  go_wp2_with fail
  refine (uint_any p q bs 20 8 _ hR (by omega) (by omega) (by rw [Hl.out]; omega)).mono ?_
  rintro e v3 ⟨rfl, hR1, hG⟩
  rw [show (8 : Int).toNat = 8 from rfl, show ((ofBe (sub bs 20 8) : Nat) : Int) = y_clock from H_clock.out]
  rw [show (8 : Int).toNat = 8 from rfl] at hR1
  clear hc0
  have hN := hN.grown hG m1
  have hZ := hZ.grown hG m2
  have hC := hC.grown hG m3
  have hW := hW.grown hG hW.size m4
  have hR := hR1
  clear hG hR1
  go_wp2_with fail
  refine (rnum_any w1.heap.size p q bs 28 2 _ hC hR (by omega) (by omega) (by rw [Hl.out]; omega)).mono ?_
  rintro e v4 ⟨rfl, hR1, hG⟩
  rw [show ((num bs 28 2 : Nat) : Int) = y_port from H_port.out]
  have hN := hN.grown hG m1
  have hZ := hZ.grown hG m2
  have hC := hC.grown hG m3
  have hW := hW.grown hG hW.size m4
  have hR := hR1
  clear hG hR1
  go_wp2_with fail
  refine (rnum_any w1.heap.size p q bs 30 2 _ hC hR (by omega) (by omega) (by rw [Hl.out]; omega)).mono ?_
  rintro e v5 ⟨rfl, hR1, hG⟩
  rw [show ((num bs 30 2 : Nat) : Int) = y_seq from H_seq.out]
  have hN := hN.grown hG m1
  have hZ := hZ.grown hG m2
  have hC := hC.grown hG m3
  have hW := hW.grown hG hW.size m4
  have hR := hR1
  clear hG hR1
  have c4 := hN.cell 4
  have f4 := hN.frozen 4
  have c5 := hN.cell 5
  have f5 := hN.frozen 5
  have c6 := hN.cell 6
  have f6 := hN.frozen 6
  simp only [List.getElem?_cons_zero, List.getElem?_cons_succ] at c4 c5 c6
  have hN := hN.set_ 4 (.int .u64 y_clock)
  have hZ := hZ.far (p := ⟨w2.heap.size, 4, none⟩) n3 (.int .u64 y_clock)
  have hC := hC.far (p := ⟨w2.heap.size, 4, none⟩) n4 (.int .u64 y_clock)
  have hW := hW.setCell (p := ⟨w2.heap.size, 4, none⟩) hwl (.int .u64 y_clock)
  have hR := rdr_far (i := 4) hR n1 n2 (.int .u64 y_clock)
  have hN := hN.set_ 5 (.int .i64 y_port)
  have hZ := hZ.far (p := ⟨w2.heap.size, 5, none⟩) n3 (.int .i64 y_port)
  have hC := hC.far (p := ⟨w2.heap.size, 5, none⟩) n4 (.int .i64 y_port)
  have hW := hW.setCell (p := ⟨w2.heap.size, 5, none⟩) hwl (.int .i64 y_port)
  have hR := rdr_far (i := 5) hR n1 n2 (.int .i64 y_port)
  have hN := hN.set_ 6 (.int .i64 y_seq)
  have hZ := hZ.far (p := ⟨w2.heap.size, 6, none⟩) n3 (.int .i64 y_seq)
  have hC := hC.far (p := ⟨w2.heap.size, 6, none⟩) n4 (.int .i64 y_seq)
  have hW := hW.setCell (p := ⟨w2.heap.size, 6, none⟩) hwl (.int .i64 y_seq)
  have hR := rdr_far (i := 6) hR n1 n2 (.int .i64 y_seq)
  simp only [List.set_cons_zero, List.set_cons_succ] at hN
  go_upto_region 10 with (fail)
  generalize (((v5.setCell ⟨w2.heap.size, 4, none⟩ (.int .u64 y_clock)).setCell ⟨w2.heap.size, 5, none⟩ (.int .i64 y_port)).setCell ⟨w2.heap.size, 6, none⟩ (.int .i64 y_seq)) = WG at *
  clear c4 f4 c5 f5 c6 f6
  have L32 := hide (show 32 + 1 ≤ bs.length by rw [Hl.out]; omega)
  have R11 := hide (show 1 ≤ 1 by omega)
  have R16 := hide (show 1 ≤ 6 by omega)
  have hRd : Rdr WG.drew p q bs 32 := rdr_below hR (Below.refl _ _).drew
  have hCd : Blk WG.drew w1.heap.size 67 [.pointer (some ⟨p, 0, none⟩)] := hC
  have hNd : Blk WG.drew w2.heap.size 28 [.int .i64 y0, .int .i64 y_dom, .int .i64 y_flags, .int .i64 y_corr, .int .u64 y_clock, .int .i64 y_port, .int .i64 y_seq, .int .i64 0, .int .i64 0, .int .i64 0, .int .u64 0, .int .i64 0, .int .i64 0, .int .i64 0, .int .i64 0, .int .i64 0, .int .i64 0, .int .i64 0, .int .u64 0, .int .i64 0, .int .i64 0] := hN
  have hk0 : WG.drew.cell? ⟨w2.heap.size, 0, none⟩ = some (.int .i64 y0) := (hNd.cell 0).trans rfl
  go_wp2
  go_region_held3 (fun w' => w'.cell? ⟨w2.heap.size, 0, none⟩ = some (.int .i64 y0))
    (first | with_reducible exact hk0 | with_reducible exact hk0a)
    (first
      | (go_at_call 47; refine (rnum_any w1.heap.size p q bs 32 1 WG.drew hCd hRd R11.out R16.out L32.out).mono ?_; rintro e va ⟨rfl, hRa, hGa⟩; rw [show ((num bs 32 1 : Nat) : Int) = y_z32 from H_z32.out]; have hNa := hNd.grown hGa m1; have hk0a : va.cell? ⟨w2.heap.size, 0, none⟩ = some (.int .i64 y0) := (hNa.cell 0).trans rfl)
      | (go_at_call 27; refine (control_any y0 va).mono ?_; rintro e vb ⟨rfl, rfl⟩))
  have hZd : Blk WG.drew w.heap.size 28 [.int .i64 0, .int .i64 0, .int .i64 0, .int .i64 0, .int .u64 0, .int .i64 0, .int .i64 0, .int .i64 0, .int .i64 0, .int .i64 0, .int .u64 0, .int .i64 0, .int .i64 0, .int .i64 0, .int .i64 0, .int .i64 0, .int .i64 0, .int .i64 0, .int .u64 0, .int .i64 0, .int .i64 0] := hZ
  have hWd := hW.drew
  have hW := hWd.grown hGa hWd.size m4
  have hZ := hZd.grown hGa m2
  have hC := hCd.grown hGa m3
  have hN := hNa
  have hR := hRa
  clear hRd hCd hNd hk0 hk0a hNa hZd hWd hRa hGa L32
  have hc0 := hC.cell 0
  simp only [List.getElem?_cons_zero] at hc0
  go_wp2_with fail
  refine (int_any p q bs 33 1 _ hR (by omega) (by rw [Hl.out]; omega)).mono ?_
  rintro e v6 ⟨rfl, hR1, hG⟩
  rw [show sgn (ofBe (sub bs 33 1)) 1 = y_logi from H_logi.out]
  clear hc0
  have hN := hN.grown hG m1
  have hZ := hZ.grown hG m2
  have hC := hC.grown hG m3
  have hW := hW.grown hG hW.size m4
  have hR := hR1
  clear hG hR1
  have c7 := hN.cell 7
  have f7 := hN.frozen 7
  simp only [List.getElem?_cons_zero, List.getElem?_cons_succ] at c7
  have hN := hN.set_ 7 (.int .i64 y_logi)
  have hZ := hZ.far (p := ⟨w2.heap.size, 7, none⟩) n3 (.int .i64 y_logi)
  have hC := hC.far (p := ⟨w2.heap.size, 7, none⟩) n4 (.int .i64 y_logi)
  have hW := hW.setCell (p := ⟨w2.heap.size, 7, none⟩) hwl (.int .i64 y_logi)
  have hR := rdr_far (i := 7) hR n1 n2 (.int .i64 y_logi)
  simp only [List.set_cons_zero, List.set_cons_succ] at hN
  go_wp2_with fail
  refine (rnum_any w1.heap.size p q bs 34 6 _ hC hR (by omega) (by omega) (by rw [Hl.out]; omega)).mono ?_
  rintro e v7 ⟨rfl, hR1, hG⟩
  rw [show ((num bs 34 6 : Nat) : Int) = y_sec from H_sec.out]
  have hN := hN.grown hG m1
  have hZ := hZ.grown hG m2
  have hC := hC.grown hG m3
  have hW := hW.grown hG hW.size m4
  have hR := hR1
  clear hG hR1
  clear c7 f7
  go_wp2_with fail
  refine (rnum_any w1.heap.size p q bs 40 4 _ hC hR (by omega) (by omega) (by rw [Hl.out]; omega)).mono ?_
  rintro e v8 ⟨rfl, hR1, hG⟩
  rw [show ((num bs 40 4 : Nat) : Int) = y_nano from H_nano.out]
  have hN := hN.grown hG m1
  have hZ := hZ.grown hG m2
  have hC := hC.grown hG m3
  have hW := hW.grown hG hW.size m4
  have hR := hR1
  clear hG hR1
  have c8 := hN.cell 8
  have f8 := hN.frozen 8
  have c9 := hN.cell 9
  have f9 := hN.frozen 9
  simp only [List.getElem?_cons_zero, List.getElem?_cons_succ] at c8 c9
  have hN := hN.set_ 8 (.int .i64 y_sec)
  have hZ := hZ.far (p := ⟨w2.heap.size, 8, none⟩) n3 (.int .i64 y_sec)
  have hC := hC.far (p := ⟨w2.heap.size, 8, none⟩) n4 (.int .i64 y_sec)
  have hW := hW.setCell (p := ⟨w2.heap.size, 8, none⟩) hwl (.int .i64 y_sec)
  have hR := rdr_far (i := 8) hR n1 n2 (.int .i64 y_sec)
  have hN := hN.set_ 9 (.int .i64 y_nano)
  have hZ := hZ.far (p := ⟨w2.heap.size, 9, none⟩) n3 (.int .i64 y_nano)
  have hC := hC.far (p := ⟨w2.heap.size, 9, none⟩) n4 (.int .i64 y_nano)
  have hW := hW.setCell (p := ⟨w2.heap.size, 9, none⟩) hwl (.int .i64 y_nano)
  have hR := rdr_far (i := 9) hR n1 n2 (.int .i64 y_nano)
  simp only [List.set_cons_zero, List.set_cons_succ] at hN
  have k0 := hN.cell 0
  simp only [List.getElem?_cons_zero] at k0
  go_wp2_with fail
  refine (requester_any y0 _).mono ?_
  rintro e vq ⟨rfl, rfl⟩
  clear c8 f8 c9 f9 k0
  cases hq : isReq y0
  · by_cases h11 : y0 = 11
    · have h11b : (y0 == 11) = true := by rw [h11]; rfl
      have H11 := hide h11
      have hm64' : m = 64 := by
        have e := Hm.out
        rw [h11] at e
        have e2 : sizeOfKind 11 = 64 := rfl
        omega
      clear h11
      have Hq := hide hq
      have k0 := hN.cell 0
      simp only [List.getElem?_cons_zero] at k0
      obtain ⟨y_utc, h_utc⟩ : ∃ y : Int, y = sgn (num bs 44 2) 2 := ⟨_, rfl⟩
      have H_utc := hide h_utc.symm
      clear h_utc
      obtain ⟨y_z46, h_z46⟩ : ∃ y : Int, y = ((num bs 46 1 : Nat) : Int) := ⟨_, rfl⟩
      have H_z46 := hide h_z46.symm
      clear h_z46
      obtain ⟨y_p1, h_p1⟩ : ∃ y : Int, y = ((num bs 47 1 : Nat) : Int) := ⟨_, rfl⟩
      have H_p1 := hide h_p1.symm
      clear h_p1
      obtain ⟨y_cls, h_cls⟩ : ∃ y : Int, y = ((num bs 48 1 : Nat) : Int) := ⟨_, rfl⟩
      have H_cls := hide h_cls.symm
      clear h_cls
      obtain ⟨y_acc, h_acc⟩ : ∃ y : Int, y = ((num bs 49 1 : Nat) : Int) := ⟨_, rfl⟩
      have H_acc := hide h_acc.symm
      clear h_acc
      obtain ⟨y_var, h_var⟩ : ∃ y : Int, y = ((num bs 50 2 : Nat) : Int) := ⟨_, rfl⟩
      have H_var := hide h_var.symm
      clear h_var
      obtain ⟨y_p2, h_p2⟩ : ∃ y : Int, y = ((num bs 52 1 : Nat) : Int) := ⟨_, rfl⟩
      have H_p2 := hide h_p2.symm
      clear h_p2
      obtain ⟨y_gm, h_gm⟩ : ∃ y : Int, y = ((num bs 53 8 : Nat) : Int) := ⟨_, rfl⟩
      have H_gm := hide h_gm.symm
      clear h_gm
      obtain ⟨y_steps, h_steps⟩ : ∃ y : Int, y = ((num bs 61 2 : Nat) : Int) := ⟨_, rfl⟩
      have H_steps := hide h_steps.symm
      clear h_steps
      obtain ⟨y_src, h_src⟩ : ∃ y : Int, y = ((num bs 63 1 : Nat) : Int) := ⟨_, rfl⟩
      have H_src := hide h_src.symm
      clear h_src
      have hc0 := hC.cell 0
      simp only [List.getElem?_cons_zero] at hc0
      go_wp2_with fail
      refine (int_any p q bs 44 2 _ hR (by omega) (by rw [Hl.out]; omega)).mono ?_
      rintro e v9 ⟨rfl, hR1, hG⟩
      rw [show sgn (ofBe (sub bs 44 2)) 2 = y_utc from H_utc.out]
      clear hc0
      have hN := hN.grown hG m1
      have hZ := hZ.grown hG m2
      have hC := hC.grown hG m3
      have hW := hW.grown hG hW.size m4
      have hR := hR1
      clear hG hR1
      clear k0
      have c12 := hN.cell 12
      have f12 := hN.frozen 12
      simp only [List.getElem?_cons_zero, List.getElem?_cons_succ] at c12
      have hN := hN.set_ 12 (.int .i64 y_utc)
      have hZ := hZ.far (p := ⟨w2.heap.size, 12, none⟩) n3 (.int .i64 y_utc)
      have hC := hC.far (p := ⟨w2.heap.size, 12, none⟩) n4 (.int .i64 y_utc)
      have hW := hW.setCell (p := ⟨w2.heap.size, 12, none⟩) hwl (.int .i64 y_utc)
      have hR := rdr_far (i := 12) hR n1 n2 (.int .i64 y_utc)
      simp only [List.set_cons_zero, List.set_cons_succ] at hN
      go_wp2_with fail
      refine (rnum_any w1.heap.size p q bs 46 1 _ hC hR (by omega) (by omega) (by rw [Hl.out]; omega)).mono ?_
      rintro e v10 ⟨rfl, hR1, hG⟩
      rw [show ((num bs 46 1 : Nat) : Int) = y_z46 from H_z46.out]
      have hN := hN.grown hG m1
      have hZ := hZ.grown hG m2
      have hC := hC.grown hG m3
      have hW := hW.grown hG hW.size m4
      have hR := hR1
      clear hG hR1
      clear c12 f12
      go_wp2_with fail
      refine (rnum_any w1.heap.size p q bs 47 1 _ hC hR (by omega) (by omega) (by rw [Hl.out]; omega)).mono ?_
      rintro e v11 ⟨rfl, hR1, hG⟩
      rw [show ((num bs 47 1 : Nat) : Int) = y_p1 from H_p1.out]
      have hN := hN.grown hG m1
      have hZ := hZ.grown hG m2
      have hC := hC.grown hG m3
      have hW := hW.grown hG hW.size m4
      have hR := hR1
      clear hG hR1
      go_wp2_with fail
      refine (rnum_any w1.heap.size p q bs 48 1 _ hC hR (by omega) (by omega) (by rw [Hl.out]; omega)).mono ?_
      rintro e v12 ⟨rfl, hR1, hG⟩
      rw [show ((num bs 48 1 : Nat) : Int) = y_cls from H_cls.out]
      have hN := hN.grown hG m1
      have hZ := hZ.grown hG m2
      have hC := hC.grown hG m3
      have hW := hW.grown hG hW.size m4
      have hR := hR1
      clear hG hR1
      go_wp2_with fail
      refine (rnum_any w1.heap.size p q bs 49 1 _ hC hR (by omega) (by omega) (by rw [Hl.out]; omega)).mono ?_
      rintro e v13 ⟨rfl, hR1, hG⟩
      rw [show ((num bs 49 1 : Nat) : Int) = y_acc from H_acc.out]
      have hN := hN.grown hG m1
      have hZ := hZ.grown hG m2
      have hC := hC.grown hG m3
      have hW := hW.grown hG hW.size m4
      have hR := hR1
      clear hG hR1
      go_wp2_with fail
      refine (rnum_any w1.heap.size p q bs 50 2 _ hC hR (by omega) (by omega) (by rw [Hl.out]; omega)).mono ?_
      rintro e v14 ⟨rfl, hR1, hG⟩
      rw [show ((num bs 50 2 : Nat) : Int) = y_var from H_var.out]
      have hN := hN.grown hG m1
      have hZ := hZ.grown hG m2
      have hC := hC.grown hG m3
      have hW := hW.grown hG hW.size m4
      have hR := hR1
      clear hG hR1
      go_wp2_with fail
      refine (rnum_any w1.heap.size p q bs 52 1 _ hC hR (by omega) (by omega) (by rw [Hl.out]; omega)).mono ?_
      rintro e v15 ⟨rfl, hR1, hG⟩
      rw [show ((num bs 52 1 : Nat) : Int) = y_p2 from H_p2.out]
      have hN := hN.grown hG m1
      have hZ := hZ.grown hG m2
      have hC := hC.grown hG m3
      have hW := hW.grown hG hW.size m4
      have hR := hR1
      clear hG hR1
      have c13 := hN.cell 13
      have f13 := hN.frozen 13
      have c14 := hN.cell 14
      have f14 := hN.frozen 14
      have c15 := hN.cell 15
      have f15 := hN.frozen 15
      have c16 := hN.cell 16
      have f16 := hN.frozen 16
      have c17 := hN.cell 17
      have f17 := hN.frozen 17
      simp only [List.getElem?_cons_zero, List.getElem?_cons_succ] at c13 c14 c15 c16 c17
      have hN := hN.set_ 13 (.int .i64 y_p1)
      have hZ := hZ.far (p := ⟨w2.heap.size, 13, none⟩) n3 (.int .i64 y_p1)
      have hC := hC.far (p := ⟨w2.heap.size, 13, none⟩) n4 (.int .i64 y_p1)
      have hW := hW.setCell (p := ⟨w2.heap.size, 13, none⟩) hwl (.int .i64 y_p1)
      have hR := rdr_far (i := 13) hR n1 n2 (.int .i64 y_p1)
      have hN := hN.set_ 14 (.int .i64 y_cls)
      have hZ := hZ.far (p := ⟨w2.heap.size, 14, none⟩) n3 (.int .i64 y_cls)
      have hC := hC.far (p := ⟨w2.heap.size, 14, none⟩) n4 (.int .i64 y_cls)
      have hW := hW.setCell (p := ⟨w2.heap.size, 14, none⟩) hwl (.int .i64 y_cls)
      have hR := rdr_far (i := 14) hR n1 n2 (.int .i64 y_cls)
      have hN := hN.set_ 15 (.int .i64 y_acc)
      have hZ := hZ.far (p := ⟨w2.heap.size, 15, none⟩) n3 (.int .i64 y_acc)
      have hC := hC.far (p := ⟨w2.heap.size, 15, none⟩) n4 (.int .i64 y_acc)
      have hW := hW.setCell (p := ⟨w2.heap.size, 15, none⟩) hwl (.int .i64 y_acc)
      have hR := rdr_far (i := 15) hR n1 n2 (.int .i64 y_acc)
      have hN := hN.set_ 16 (.int .i64 y_var)
      have hZ := hZ.far (p := ⟨w2.heap.size, 16, none⟩) n3 (.int .i64 y_var)
      have hC := hC.far (p := ⟨w2.heap.size, 16, none⟩) n4 (.int .i64 y_var)
      have hW := hW.setCell (p := ⟨w2.heap.size, 16, none⟩) hwl (.int .i64 y_var)
      have hR := rdr_far (i := 16) hR n1 n2 (.int .i64 y_var)
      have hN := hN.set_ 17 (.int .i64 y_p2)
      have hZ := hZ.far (p := ⟨w2.heap.size, 17, none⟩) n3 (.int .i64 y_p2)
      have hC := hC.far (p := ⟨w2.heap.size, 17, none⟩) n4 (.int .i64 y_p2)
      have hW := hW.setCell (p := ⟨w2.heap.size, 17, none⟩) hwl (.int .i64 y_p2)
      have hR := rdr_far (i := 17) hR n1 n2 (.int .i64 y_p2)
      simp only [List.set_cons_zero, List.set_cons_succ] at hN
      have hc0 := hC.cell 0
      simp only [List.getElem?_cons_zero] at hc0
      go_wp2_with fail
      refine (uint_any p q bs 53 8 _ hR (by omega) (by omega) (by rw [Hl.out]; omega)).mono ?_
      rintro e v16 ⟨rfl, hR1, hG⟩
      rw [show (8 : Int).toNat = 8 from rfl, show ((ofBe (sub bs 53 8) : Nat) : Int) = y_gm from H_gm.out]
      rw [show (8 : Int).toNat = 8 from rfl] at hR1
      clear hc0
      have hN := hN.grown hG m1
      have hZ := hZ.grown hG m2
      have hC := hC.grown hG m3
      have hW := hW.grown hG hW.size m4
      have hR := hR1
      clear hG hR1
      clear c13 f13 c14 f14 c15 f15 c16 f16 c17 f17
      go_wp2_with fail
      refine (rnum_any w1.heap.size p q bs 61 2 _ hC hR (by omega) (by omega) (by rw [Hl.out]; omega)).mono ?_
      rintro e v17 ⟨rfl, hR1, hG⟩
      rw [show ((num bs 61 2 : Nat) : Int) = y_steps from H_steps.out]
      have hN := hN.grown hG m1
      have hZ := hZ.grown hG m2
      have hC := hC.grown hG m3
      have hW := hW.grown hG hW.size m4
      have hR := hR1
      clear hG hR1
      go_wp2_with fail
      refine (rnum_any w1.heap.size p q bs 63 1 _ hC hR (by omega) (by omega) (by rw [Hl.out]; omega)).mono ?_
      rintro e v18 ⟨rfl, hR1, hG⟩
      rw [show ((num bs 63 1 : Nat) : Int) = y_src from H_src.out]
      have hN := hN.grown hG m1
      have hZ := hZ.grown hG m2
      have hC := hC.grown hG m3
      have hW := hW.grown hG hW.size m4
      have hR := hR1
      clear hG hR1
      have c18 := hN.cell 18
      have f18 := hN.frozen 18
      have c19 := hN.cell 19
      have f19 := hN.frozen 19
      have c20 := hN.cell 20
      have f20 := hN.frozen 20
      simp only [List.getElem?_cons_zero, List.getElem?_cons_succ] at c18 c19 c20
      have hN := hN.set_ 18 (.int .u64 y_gm)
      have hZ := hZ.far (p := ⟨w2.heap.size, 18, none⟩) n3 (.int .u64 y_gm)
      have hC := hC.far (p := ⟨w2.heap.size, 18, none⟩) n4 (.int .u64 y_gm)
      have hW := hW.setCell (p := ⟨w2.heap.size, 18, none⟩) hwl (.int .u64 y_gm)
      have hR := rdr_far (i := 18) hR n1 n2 (.int .u64 y_gm)
      have hN := hN.set_ 19 (.int .i64 y_steps)
      have hZ := hZ.far (p := ⟨w2.heap.size, 19, none⟩) n3 (.int .i64 y_steps)
      have hC := hC.far (p := ⟨w2.heap.size, 19, none⟩) n4 (.int .i64 y_steps)
      have hW := hW.setCell (p := ⟨w2.heap.size, 19, none⟩) hwl (.int .i64 y_steps)
      have hR := rdr_far (i := 19) hR n1 n2 (.int .i64 y_steps)
      have hN := hN.set_ 20 (.int .i64 y_src)
      have hZ := hZ.far (p := ⟨w2.heap.size, 20, none⟩) n3 (.int .i64 y_src)
      have hC := hC.far (p := ⟨w2.heap.size, 20, none⟩) n4 (.int .i64 y_src)
      have hW := hW.setCell (p := ⟨w2.heap.size, 20, none⟩) hwl (.int .i64 y_src)
      have hR := rdr_far (i := 20) hR n1 n2 (.int .i64 y_src)
      simp only [List.set_cons_zero, List.set_cons_succ] at hN
      have hP0 : _ ∧ _ := ⟨blk_setCells [.int .i64 y0, .int .i64 y_dom, .int .i64 y_flags, .int .i64 y_corr, .int .u64 y_clock, .int .i64 y_port, .int .i64 y_seq, .int .i64 y_logi, .int .i64 y_sec, .int .i64 y_nano, .int .u64 0, .int .i64 0, .int .i64 y_utc, .int .i64 y_p1, .int .i64 y_cls, .int .i64 y_acc, .int .i64 y_var, .int .i64 y_p2, .int .u64 y_gm, .int .i64 y_steps, .int .i64 y_src] [] [.int .i64 0, .int .i64 0, .int .i64 0, .int .i64 0, .int .u64 0, .int .i64 0, .int .i64 0, .int .i64 0, .int .i64 0, .int .i64 0, .int .u64 0, .int .i64 0, .int .i64 0, .int .i64 0, .int .i64 0, .int .i64 0, .int .i64 0, .int .i64 0, .int .u64 0, .int .i64 0, .int .i64 0] _ hZ rfl, below_setCells (Nat.le_refl w.heap.size) [.int .i64 y0, .int .i64 y_dom, .int .i64 y_flags, .int .i64 y_corr, .int .u64 y_clock, .int .i64 y_port, .int .i64 y_seq, .int .i64 y_logi, .int .i64 y_sec, .int .i64 y_nano, .int .u64 0, .int .i64 0, .int .i64 y_utc, .int .i64 y_p1, .int .i64 y_cls, .int .i64 y_acc, .int .i64 y_var, .int .i64 y_p2, .int .u64 y_gm, .int .i64 y_steps, .int .i64 y_src] 0 _ hW⟩
      have hone : (#[.int .i64 y0, .int .i64 y_dom, .int .i64 y_flags, .int .i64 y_corr, .int .u64 y_clock, .int .i64 y_port, .int .i64 y_seq, .int .i64 y_logi, .int .i64 y_sec, .int .i64 y_nano, .int .u64 0, .int .i64 0, .int .i64 y_utc, .int .i64 y_p1, .int .i64 y_cls, .int .i64 y_acc, .int .i64 y_var, .int .i64 y_p2, .int .u64 y_gm, .int .i64 y_steps, .int .i64 y_src] : Array Value).all (·.oneCell') = true := all_oneCell_toArray (by repeat (first | exact List.forall_mem_nil _ | refine List.forall_mem_cons.2 ⟨rfl, ?_⟩))
      have hth := there21 hZ rfl
      have hrg := range21 hN
      have HP0 := hide hP0
      clear hZ hC hR hW hP0 hN
      go_wp2_with (first
        | (refine wpList_load_mid rfl 28 _ rfl _ 0 rfl _ _ hrg Try.underlying28 rfl info21 ?_)
        | (refine wpList_store_mid rfl 28 _ _ rfl _ 0 _ rfl rfl hth info21 hone ?_; refine wpList_gen (fun W => Blk W w.heap.size 28 [.int .i64 y0, .int .i64 y_dom, .int .i64 y_flags, .int .i64 y_corr, .int .u64 y_clock, .int .i64 y_port, .int .i64 y_seq, .int .i64 y_logi, .int .i64 y_sec, .int .i64 y_nano, .int .u64 0, .int .i64 0, .int .i64 y_utc, .int .i64 y_p1, .int .i64 y_cls, .int .i64 y_acc, .int .i64 y_var, .int .i64 y_p2, .int .u64 y_gm, .int .i64 y_steps, .int .i64 y_src] ∧ Below w.heap.size w W) HP0.out ?_; rintro Wf ⟨hZf, hWf⟩))
      refine bodyPost_ret (results21 rfl rfl rfl hZf rfl) rfl ⟨?_, hWf⟩
      have hval : (ptpOf bs).val = .agg #[.int .i64 y0, .int .i64 y_dom, .int .i64 y_flags, .int .i64 y_corr, .int .u64 y_clock, .int .i64 y_port, .int .i64 y_seq, .int .i64 y_logi, .int .i64 y_sec, .int .i64 y_nano, .int .u64 0, .int .i64 0, .int .i64 y_utc, .int .i64 y_p1, .int .i64 y_cls, .int .i64 y_acc, .int .i64 y_var, .int .i64 y_p2, .int .u64 y_gm, .int .i64 y_steps, .int .i64 y_src] := by
        unfold ptpOf Ptp.val Ptp.cells
        dsimp only
        rw [← Hy0.out, if_neg (by rw [Hq.out]; simp), if_neg (by rw [Hq.out]; simp), if_pos H11.out, if_pos H11.out, if_pos H11.out, if_pos H11.out, if_pos H11.out, if_pos H11.out, if_pos H11.out, if_pos H11.out, if_pos H11.out, H_dom.out, H_flags.out, H_corr.out, H_clock.out, H_port.out, H_seq.out, H_logi.out, H_sec.out, H_nano.out, H_utc.out, H_p1.out, H_cls.out, H_acc.out, H_var.out, H_p2.out, H_gm.out, H_steps.out, H_src.out]
      have hz : zeroOr bs = bits .or .i64 (bits .or .i64 (bits .or .i64 y_z5 y_z16) (bits .xor .i64 y_z32 (controlOf y0))) y_z46 := by
        unfold zeroOr zeroHead
        rw [← Hy0.out, if_neg (by rw [Hq.out]; simp), if_pos H11.out, H_z5.out, H_z16.out, H_z32.out, H_z46.out]
      rw [hval, hz]
      rfl
    · have h11b : (y0 == 11) = false := by simpa using h11
      have Hq := hide hq
      have k0 := hN.cell 0
      simp only [List.getElem?_cons_zero] at k0
      go_wp2
      clear k0
      go_loopw [7] (fun zv wr => ∃ k : Nat, zv = .int .i64 (zl bs (bits .or .i64 (bits .or .i64 y_z5 y_z16) (bits .xor .i64 y_z32 (controlOf y0))) 44 k) ∧ 44 + k ≤ m ∧ Rdr wr p q bs (44 + k) ∧ Blk wr w2.heap.size 28 [.int .i64 y0, .int .i64 y_dom, .int .i64 y_flags, .int .i64 y_corr, .int .u64 y_clock, .int .i64 y_port, .int .i64 y_seq, .int .i64 y_logi, .int .i64 y_sec, .int .i64 y_nano, .int .u64 0, .int .i64 0, .int .i64 0, .int .i64 0, .int .i64 0, .int .i64 0, .int .i64 0, .int .i64 0, .int .u64 0, .int .i64 0, .int .i64 0] ∧ Blk wr w.heap.size 28 [.int .i64 0, .int .i64 0, .int .i64 0, .int .i64 0, .int .u64 0, .int .i64 0, .int .i64 0, .int .i64 0, .int .i64 0, .int .i64 0, .int .u64 0, .int .i64 0, .int .i64 0, .int .i64 0, .int .i64 0, .int .i64 0, .int .i64 0, .int .i64 0, .int .u64 0, .int .i64 0, .int .i64 0] ∧ Blk wr w1.heap.size 67 [.pointer (some ⟨p, 0, none⟩)] ∧ Below w.heap.size w wr) (fun _ wr => sliceLen (wr.cell? ⟨p, 0, none⟩))
      case atStart => exact ⟨0, rfl, by omega, hR, hN, hZ, hC, hW⟩
      case round =>
        clear hR hN hZ hC hW
        obtain ⟨k, rfl, hk, hR, hN, hZ, hC, hW⟩ := hrel
        have hc0 := blk1 hC
        by_cases hlt : 44 + k < m
        · obtain ⟨D, hD⟩ : ∃ D : Nat, D = bs.length - (44 + k) := ⟨_, rfl⟩
          have hDp : (0 : Int) < (D : Int) := by have := Hl.out; omega
          go_wp2_with fail
          refine (left_any p q bs (44 + k) wr hR).mono ?_
          rintro e wl ⟨rfl, rfl⟩
          rw [← hD]
          have HD := hide hD
          clear hD
          go_wp2_with fail
          refine (rnum_any w1.heap.size p q bs (44 + k) 1 _ hC hR (by omega) (by omega) (by rw [Hl.out]; omega)).mono ?_
          rintro e vn ⟨rfl, hR1, hG⟩
          have hN1 := hN.grown hG m1
          have hZ1 := hZ.grown hG m2
          have hC1 := hC.grown hG m3
          have hW1 := hW.grown hG hW.size m4
          have hms : sliceLen (vn.cell? ⟨p, 0, none⟩) < sliceLen (wr.cell? ⟨p, 0, none⟩) := by
            rw [rdr_len hR1, rdr_len hR, Hl.out]
            omega
          clear hc0 hDp
          go_wp2
          exact ⟨⟨k + 1, rfl, by omega, hR1, hN1, hZ1, hC1, hW1⟩, hms⟩
        · have hkm : bs.length - (44 + k) = 0 := by have := Hl.out; omega
          have hkl : bs.length - 44 = k := by have := Hl.out; omega
          go_wp2_with fail
          refine (left_any p q bs (44 + k) wr hR).mono ?_
          rintro e wl ⟨rfl, rfl⟩
          rw [hkm]
          clear hc0 hkm
          have hP0 : _ ∧ _ := ⟨blk_setCells [.int .i64 y0, .int .i64 y_dom, .int .i64 y_flags, .int .i64 y_corr, .int .u64 y_clock, .int .i64 y_port, .int .i64 y_seq, .int .i64 y_logi, .int .i64 y_sec, .int .i64 y_nano, .int .u64 0, .int .i64 0, .int .i64 0, .int .i64 0, .int .i64 0, .int .i64 0, .int .i64 0, .int .i64 0, .int .u64 0, .int .i64 0, .int .i64 0] [] [.int .i64 0, .int .i64 0, .int .i64 0, .int .i64 0, .int .u64 0, .int .i64 0, .int .i64 0, .int .i64 0, .int .i64 0, .int .i64 0, .int .u64 0, .int .i64 0, .int .i64 0, .int .i64 0, .int .i64 0, .int .i64 0, .int .i64 0, .int .i64 0, .int .u64 0, .int .i64 0, .int .i64 0] _ hZ rfl, below_setCells (Nat.le_refl w.heap.size) [.int .i64 y0, .int .i64 y_dom, .int .i64 y_flags, .int .i64 y_corr, .int .u64 y_clock, .int .i64 y_port, .int .i64 y_seq, .int .i64 y_logi, .int .i64 y_sec, .int .i64 y_nano, .int .u64 0, .int .i64 0, .int .i64 0, .int .i64 0, .int .i64 0, .int .i64 0, .int .i64 0, .int .i64 0, .int .u64 0, .int .i64 0, .int .i64 0] 0 _ hW⟩
          have hone : (#[.int .i64 y0, .int .i64 y_dom, .int .i64 y_flags, .int .i64 y_corr, .int .u64 y_clock, .int .i64 y_port, .int .i64 y_seq, .int .i64 y_logi, .int .i64 y_sec, .int .i64 y_nano, .int .u64 0, .int .i64 0, .int .i64 0, .int .i64 0, .int .i64 0, .int .i64 0, .int .i64 0, .int .i64 0, .int .u64 0, .int .i64 0, .int .i64 0] : Array Value).all (·.oneCell') = true := all_oneCell_toArray (by repeat (first | exact List.forall_mem_nil _ | refine List.forall_mem_cons.2 ⟨rfl, ?_⟩))
          have hth := there21 hZ rfl
          have hrg := range21 hN
          have HP0 := hide hP0
          clear hZ hC hR hW hP0 hN
          go_wp2_with (first
            | (refine wpList_load_mid rfl 28 _ rfl _ 0 rfl _ _ hrg Try.underlying28 rfl info21 ?_)
            | (refine wpList_store_mid rfl 28 _ _ rfl _ 0 _ rfl rfl hth info21 hone ?_; refine wpList_gen (fun W => Blk W w.heap.size 28 [.int .i64 y0, .int .i64 y_dom, .int .i64 y_flags, .int .i64 y_corr, .int .u64 y_clock, .int .i64 y_port, .int .i64 y_seq, .int .i64 y_logi, .int .i64 y_sec, .int .i64 y_nano, .int .u64 0, .int .i64 0, .int .i64 0, .int .i64 0, .int .i64 0, .int .i64 0, .int .i64 0, .int .i64 0, .int .u64 0, .int .i64 0, .int .i64 0] ∧ Below w.heap.size w W) HP0.out ?_; rintro Wf ⟨hZf, hWf⟩))
          refine bodyPost_ret (results21 rfl rfl rfl hZf rfl) rfl ⟨?_, hWf⟩
          have hval : (ptpOf bs).val = .agg #[.int .i64 y0, .int .i64 y_dom, .int .i64 y_flags, .int .i64 y_corr, .int .u64 y_clock, .int .i64 y_port, .int .i64 y_seq, .int .i64 y_logi, .int .i64 y_sec, .int .i64 y_nano, .int .u64 0, .int .i64 0, .int .i64 0, .int .i64 0, .int .i64 0, .int .i64 0, .int .i64 0, .int .i64 0, .int .u64 0, .int .i64 0, .int .i64 0] := by
            unfold ptpOf Ptp.val Ptp.cells
            dsimp only
            rw [← Hy0.out, if_neg (by rw [Hq.out]; simp), if_neg (by rw [Hq.out]; simp), if_neg h11, if_neg h11, if_neg h11, if_neg h11, if_neg h11, if_neg h11, if_neg h11, if_neg h11, if_neg h11, H_dom.out, H_flags.out, H_corr.out, H_clock.out, H_port.out, H_seq.out, H_logi.out, H_sec.out, H_nano.out]
          have hz : zeroOr bs = zl bs (bits .or .i64 (bits .or .i64 y_z5 y_z16) (bits .xor .i64 y_z32 (controlOf y0))) 44 k := by
            unfold zeroOr zeroHead
            rw [← Hy0.out, if_neg (by rw [Hq.out]; simp), if_neg h11, hkl, H_z5.out, H_z16.out, H_z32.out]
          rw [hval, hz]
          rfl

  · obtain ⟨y_rclock, h_rclock⟩ : ∃ y : Int, y = ((num bs 44 8 : Nat) : Int) := ⟨_, rfl⟩
    have H_rclock := hide h_rclock.symm
    clear h_rclock
    obtain ⟨y_rport, h_rport⟩ : ∃ y : Int, y = ((num bs 52 2 : Nat) : Int) := ⟨_, rfl⟩
    have H_rport := hide h_rport.symm
    clear h_rport
    have Hq := hide hq
    have h11 := (req_size hq).2
    have H11 := hide h11
    have hm54 : m = 54 := by
      have e := Hm.out
      rw [(req_size hq).1] at e
      omega
    clear h11
    have hc0 := hC.cell 0
    simp only [List.getElem?_cons_zero] at hc0
    go_wp2_with fail
    refine (uint_any p q bs 44 8 _ hR (by omega) (by omega) (by rw [Hl.out]; omega)).mono ?_
    rintro e v19 ⟨rfl, hR1, hG⟩
    rw [show (8 : Int).toNat = 8 from rfl, show ((ofBe (sub bs 44 8) : Nat) : Int) = y_rclock from H_rclock.out]
    rw [show (8 : Int).toNat = 8 from rfl] at hR1
    clear hc0
    have hN := hN.grown hG m1
    have hZ := hZ.grown hG m2
    have hC := hC.grown hG m3
    have hW := hW.grown hG hW.size m4
    have hR := hR1
    clear hG hR1
    go_wp2_with fail
    refine (rnum_any w1.heap.size p q bs 52 2 _ hC hR (by omega) (by omega) (by rw [Hl.out]; omega)).mono ?_
    rintro e v20 ⟨rfl, hR1, hG⟩
    rw [show ((num bs 52 2 : Nat) : Int) = y_rport from H_rport.out]
    have hN := hN.grown hG m1
    have hZ := hZ.grown hG m2
    have hC := hC.grown hG m3
    have hW := hW.grown hG hW.size m4
    have hR := hR1
    clear hG hR1
    have c10 := hN.cell 10
    have f10 := hN.frozen 10
    have c11 := hN.cell 11
    have f11 := hN.frozen 11
    simp only [List.getElem?_cons_zero, List.getElem?_cons_succ] at c10 c11
    have hN := hN.set_ 10 (.int .u64 y_rclock)
    have hZ := hZ.far (p := ⟨w2.heap.size, 10, none⟩) n3 (.int .u64 y_rclock)
    have hC := hC.far (p := ⟨w2.heap.size, 10, none⟩) n4 (.int .u64 y_rclock)
    have hW := hW.setCell (p := ⟨w2.heap.size, 10, none⟩) hwl (.int .u64 y_rclock)
    have hR := rdr_far (i := 10) hR n1 n2 (.int .u64 y_rclock)
    have hN := hN.set_ 11 (.int .i64 y_rport)
    have hZ := hZ.far (p := ⟨w2.heap.size, 11, none⟩) n3 (.int .i64 y_rport)
    have hC := hC.far (p := ⟨w2.heap.size, 11, none⟩) n4 (.int .i64 y_rport)
    have hW := hW.setCell (p := ⟨w2.heap.size, 11, none⟩) hwl (.int .i64 y_rport)
    have hR := rdr_far (i := 11) hR n1 n2 (.int .i64 y_rport)
    simp only [List.set_cons_zero, List.set_cons_succ] at hN
    have k0 := hN.cell 0
    have h11b : (y0 == 11) = false := by simpa using H11.out
    simp only [List.getElem?_cons_zero] at k0
    have hP0 : _ ∧ _ := ⟨blk_setCells [.int .i64 y0, .int .i64 y_dom, .int .i64 y_flags, .int .i64 y_corr, .int .u64 y_clock, .int .i64 y_port, .int .i64 y_seq, .int .i64 y_logi, .int .i64 y_sec, .int .i64 y_nano, .int .u64 y_rclock, .int .i64 y_rport, .int .i64 0, .int .i64 0, .int .i64 0, .int .i64 0, .int .i64 0, .int .i64 0, .int .u64 0, .int .i64 0, .int .i64 0] [] [.int .i64 0, .int .i64 0, .int .i64 0, .int .i64 0, .int .u64 0, .int .i64 0, .int .i64 0, .int .i64 0, .int .i64 0, .int .i64 0, .int .u64 0, .int .i64 0, .int .i64 0, .int .i64 0, .int .i64 0, .int .i64 0, .int .i64 0, .int .i64 0, .int .u64 0, .int .i64 0, .int .i64 0] _ hZ rfl, below_setCells (Nat.le_refl w.heap.size) [.int .i64 y0, .int .i64 y_dom, .int .i64 y_flags, .int .i64 y_corr, .int .u64 y_clock, .int .i64 y_port, .int .i64 y_seq, .int .i64 y_logi, .int .i64 y_sec, .int .i64 y_nano, .int .u64 y_rclock, .int .i64 y_rport, .int .i64 0, .int .i64 0, .int .i64 0, .int .i64 0, .int .i64 0, .int .i64 0, .int .u64 0, .int .i64 0, .int .i64 0] 0 _ hW⟩
    have hone : (#[.int .i64 y0, .int .i64 y_dom, .int .i64 y_flags, .int .i64 y_corr, .int .u64 y_clock, .int .i64 y_port, .int .i64 y_seq, .int .i64 y_logi, .int .i64 y_sec, .int .i64 y_nano, .int .u64 y_rclock, .int .i64 y_rport, .int .i64 0, .int .i64 0, .int .i64 0, .int .i64 0, .int .i64 0, .int .i64 0, .int .u64 0, .int .i64 0, .int .i64 0] : Array Value).all (·.oneCell') = true := all_oneCell_toArray (by repeat (first | exact List.forall_mem_nil _ | refine List.forall_mem_cons.2 ⟨rfl, ?_⟩))
    have hth := there21 hZ rfl
    have hrg := range21 hN
    have HP0 := hide hP0
    clear hZ hC hR hW hP0 hN
    go_wp2_with (first
      | (refine wpList_load_mid rfl 28 _ rfl _ 0 rfl _ _ hrg Try.underlying28 rfl info21 ?_)
      | (refine wpList_store_mid rfl 28 _ _ rfl _ 0 _ rfl rfl hth info21 hone ?_; refine wpList_gen (fun W => Blk W w.heap.size 28 [.int .i64 y0, .int .i64 y_dom, .int .i64 y_flags, .int .i64 y_corr, .int .u64 y_clock, .int .i64 y_port, .int .i64 y_seq, .int .i64 y_logi, .int .i64 y_sec, .int .i64 y_nano, .int .u64 y_rclock, .int .i64 y_rport, .int .i64 0, .int .i64 0, .int .i64 0, .int .i64 0, .int .i64 0, .int .i64 0, .int .u64 0, .int .i64 0, .int .i64 0] ∧ Below w.heap.size w W) HP0.out ?_; rintro Wf ⟨hZf, hWf⟩))
    refine bodyPost_ret (results21 rfl rfl rfl hZf rfl) rfl ⟨?_, hWf⟩
    have hval : (ptpOf bs).val = .agg #[.int .i64 y0, .int .i64 y_dom, .int .i64 y_flags, .int .i64 y_corr, .int .u64 y_clock, .int .i64 y_port, .int .i64 y_seq, .int .i64 y_logi, .int .i64 y_sec, .int .i64 y_nano, .int .u64 y_rclock, .int .i64 y_rport, .int .i64 0, .int .i64 0, .int .i64 0, .int .i64 0, .int .i64 0, .int .i64 0, .int .u64 0, .int .i64 0, .int .i64 0] := by
      unfold ptpOf Ptp.val Ptp.cells
      dsimp only
      rw [← Hy0.out, if_pos Hq.out, if_pos Hq.out, if_neg H11.out, if_neg H11.out, if_neg H11.out, if_neg H11.out, if_neg H11.out, if_neg H11.out, if_neg H11.out, if_neg H11.out, if_neg H11.out, H_dom.out, H_flags.out, H_corr.out, H_clock.out, H_port.out, H_seq.out, H_logi.out, H_sec.out, H_nano.out, H_rclock.out, H_rport.out]
    have hz : zeroOr bs = bits .or .i64 (bits .or .i64 y_z5 y_z16) (bits .xor .i64 y_z32 (controlOf y0)) := by
      unfold zeroOr zeroHead
      rw [← Hy0.out, if_pos Hq.out, H_z5.out, H_z16.out, H_z32.out]
    rw [hval, hz]
    rfl

end Go.Proofs.Ytlobddhpkemklaa
