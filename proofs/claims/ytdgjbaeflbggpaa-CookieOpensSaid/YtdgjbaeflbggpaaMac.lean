/- mac.Tag, mac.Derive and the reference's: one number for bytes under a key.
  SEATS: cookie guard -/
import Derived.Test.YtdgjbaeflbggpaaMix
import Derived.OneCell
namespace Go.Proofs.Ytdgjbaeflbggpaa
open Go.RowKit
set_option linter.unusedVariables false

/-- The number of bytes, the lowest first. -/
def le (l : List UInt8) : Nat := l.foldr (fun b n => b.toNat + 256 * n) 0

theorem le_snoc (l : List UInt8) (b : UInt8) : le (l ++ [b]) = le l + b.toNat * 256 ^ l.length := by
  induction l with
  | nil => simp [le]
  | cons a l ih =>
    have h1 : le (a :: l ++ [b]) = a.toNat + 256 * le (l ++ [b]) := rfl
    have h2 : le (a :: l) = a.toNat + 256 * le l := rfl
    rw [h1, h2, ih, List.length_cons, Nat.pow_succ, Nat.mul_comm (256 ^ l.length) 256, ← Nat.mul_assoc, Nat.mul_comm b.toNat 256, Nat.mul_assoc 256, Nat.mul_add, Nat.add_assoc]

theorem le_lt : ∀ (l : List UInt8), le l < 256 ^ l.length
  | [] => by simp [le]
  | a :: l => by
    have h1 : le (a :: l) = a.toNat + 256 * le l := rfl
    have := le_lt l
    have := a.toNat_lt
    rw [h1, List.length_cons, Nat.pow_succ]
    omega

theorem le_range (l : List UInt8) (h : l.length ≤ 8) : le l < 18446744073709551616 :=
  Nat.lt_of_lt_of_le (le_lt l) (Nat.pow_le_pow_right (show 0 < 256 by omega) h)

/-- What both tags have reckoned behind so many words. -/
def macAt (h : Int) (bs : List UInt8) : Nat → Int
  | 0 => h
  | i + 1 => mix (macAt h bs i) (le (sub bs (8 * i) 8) : Nat)
/-- The tag of bytes. -/
def mac (a b : Int) (bs : List UInt8) : Int := mix (macAt (mix a b) bs ((bs.length + 7) / 8)) (bs.length : Nat)

theorem mac_range (a b : Int) (bs : List UInt8) : 0 ≤ mac a b bs ∧ mac a b bs ≤ 18446744073709551615 := mix_range _ _

theorem macAt_range (h : Int) (bs : List UInt8) (k : Nat) (hh : 0 ≤ h ∧ h ≤ 18446744073709551615) : 0 ≤ macAt h bs k ∧ macAt h bs k ≤ 18446744073709551615 := by
  cases k with
  | zero => exact hh
  | succ k => exact mix_range _ _

theorem or_top (n x k : Nat) (hn : n < 256 ^ k) (hk : k < 8) (hx : x < 256) : bits .or .u64 (n : Int) ((x * 256 ^ k : Nat) : Int) = ((n + x * 256 ^ k : Nat) : Int) := by
  have hp : 256 ^ k = 2 ^ (8 * k) := by rw [Nat.pow_mul]
  have hb : x * 256 ^ k < 18446744073709551616 := by
    have h1 : x * 256 ^ k ≤ 255 * 256 ^ k := Nat.mul_le_mul_right _ (by omega)
    have h2 : 256 ^ k ≤ 256 ^ 7 := Nat.pow_le_pow_right (by omega) (by omega)
    omega
  have hn2 : n < 18446744073709551616 := by
    have h2 : 256 ^ k ≤ 256 ^ 7 := Nat.pow_le_pow_right (by omega) (by omega)
    omega
  rw [u64_or_nat n _ hn2 hb]
  congr 1
  have := Nat.two_pow_add_eq_or_of_lt (i := 8 * k) (show n < 2 ^ (8 * k) by omega) x
  rw [Nat.or_comm, Nat.mul_comm x, hp, ← this, Nat.add_comm]

/-- The block g holds a slice that reads as bs. -/
def Wds (w : World) (g : Nat) (bs : List UInt8) : Prop := ∃ A m c, Blk w g 30 [.slice A m c] ∧ RB w A m c bs

theorem RB.far {w : World} {g : Nat} {t : TypeId} {S : Value} {A : Option Addr} {m c : Nat} {bs : List UInt8} (h : RB w A m c bs) (hg : Blk w g t [S]) (hS : ∀ k, S ≠ .int .u8 k) (u : Value) : RB (w.setCell ⟨g, 0, none⟩ u) A m c bs :=
  ⟨h.len, h.cap, h.max, fun hn => by
    obtain ⟨b, o, hA, hlt, hc⟩ := h.cells hn
    have hne : b ≠ g := by
      rintro rfl
      obtain ⟨b', o', hA', h0⟩ := h.at_ 0 (by have := h.len; omega)
      rw [hA] at hA'
      injection hA' with hA'
      injection hA' with e1 e2 e3
      subst e1 e2
      rw [hg.cell] at h0
      match o with
      | 0 => exact hS _ (by simpa using h0)
      | _ + 1 => simp at h0
    have hk := Below.heap_setCell w ⟨g, 0, none⟩ u b hne
    exact ⟨b, o, hA, by simpa [World.setCell] using hlt, fun j u' hu => (World.cell?_of_block (w := w) (a := ⟨b, o + j, none⟩) hk).trans (hc j u' hu)⟩⟩

theorem RB.drop_ {w : World} {b o m c : Nat} {bs : List UInt8} (h : RB w (some ⟨b, o, none⟩) m c bs) (k : Nat) (hk : k ≤ m) : RB w (some ⟨b, o + k, none⟩) (m - k) (c - k) (bs.drop k) := by
  have h1 := h.len
  have h2 := h.cap
  have h3 := h.max
  refine ⟨by simp [h1], by omega, by omega, fun hn => ?_⟩
  obtain ⟨b', o', hA, hlt, hc⟩ := h.cells (by omega)
  injection hA with hA
  injection hA with e1 e2 e3
  subst e1 e2
  refine ⟨b, o + k, rfl, hlt, fun j u hu => ?_⟩
  rw [Nat.add_assoc]
  refine hc (k + j) u ?_
  rw [BV_get, List.getElem?_drop] at hu
  rw [BV_get]
  exact hu

theorem RB.none_ (w : World) (A : Option Addr) (c : Nat) (bs : List UInt8) (hc : c ≤ 9223372036854775807) (hb : bs.length = 0) : RB w A 0 c bs := ⟨hb, Nat.zero_le _, hc, fun h => absurd h (by omega)⟩

theorem or_shl (n x k : Nat) (hn : n < 256 ^ k) (hk : k < 8) (hx : x < 256) : bits .or .u64 (n : Int) (IntKind.u64.wrap ((x : Int) * 2 ^ (8 * k))) = ((n + x * 256 ^ k : Nat) : Int) := by
  have hb : x * 256 ^ k < 18446744073709551616 := by
    have h1 : x * 256 ^ k ≤ 255 * 256 ^ k := Nat.mul_le_mul_right _ (by omega)
    have h2 : 256 ^ k ≤ 256 ^ 7 := Nat.pow_le_pow_right (by omega) (by omega)
    omega
  have he : ((x : Int) * 2 ^ (8 * k)) = ((x * 256 ^ k : Nat) : Int) := by
    rw [Int.natCast_mul, Int.natCast_pow, Int.pow_mul]
    rfl
  rw [he, IntKind.wrap_u64, Int.emod_eq_of_lt (Int.natCast_nonneg _) (by omega), or_top n x k hn hk hx]

set_option maxHeartbeats 1000000 in
theorem next_any (g : Nat) (bs : List UInt8) (w : World) (h : Wds w g bs) :
    Calls Try.prog 44 #[.pointer (some ⟨g, 0, none⟩)] w fun e w' => e = .returned (.tuple #[.int .u64 (le (bs.take 8) : Nat), .bool (!bs.isEmpty)]) ∧ Wds w' g (bs.drop 8) ∧ w.grownBy w' (some g) := by
  obtain ⟨A, m, c, hg, hr⟩ := h
  have Hl := hide hr.len
  have hc := hr.cap
  have hx := hr.max
  have hc0 := hg.cell 0
  have hf0 := hg.frozen 0
  simp only [List.getElem?_cons_zero] at hc0
  by_cases h0 : m = 0
  · subst h0
    obtain rfl : bs = [] := List.eq_nil_of_length_eq_zero hr.len
    go_enter Try.func44, Try.ntmps44
    go_wp2
    go_ret2
    exact ⟨rfl, ⟨A, 0, c, hg, hr⟩, ⟨rfl, rfl, rfl, Nat.le_refl _, fun _ _ _ => rfl⟩⟩
  have hm : ((m : Int) == 0) = false := by simpa using h0
  obtain ⟨b0, o0, rfl, hlt0, hcells⟩ := hr.cells (by omega)
  by_cases h8 : 8 ≤ m
  all_goals
    go_enter Try.func44, Try.ntmps44
    go_wp2
    go_loop [13, 4] (fun i n => ∃ k : Nat, k ≤ min 8 m ∧ i = .int .i64 k ∧ n = .int .u64 (le (bs.take k) : Nat)) (fun i _ => min 8 m - (intOf i).toNat)
    case atStart => exact ⟨0, Nat.zero_le _, rfl, rfl⟩
    case round =>
      obtain ⟨k, hk, rfl, rfl⟩ := hrel
      by_cases hlt : k < min 8 m
      · have hl := Hl.out
        have hcell := hcells k (.int .u8 ((nth bs k).toNat : Int)) (by rw [BV_get, nth_get (by omega)]; rfl)
        have hb8 := (nth bs k).toNat_lt
        have Ht := hide (show bs.take (k + 1) = bs.take k ++ [nth bs k] by rw [List.take_add_one, nth_get (by omega)]; rfl)
        have hlen : (bs.take k).length = k := by simp; omega
        have hlt' := le_lt (bs.take k)
        rw [hlen] at hlt'
        have Hs := hide (le_snoc (bs.take k) (nth bs k))
        have hrange := le_range (bs.take k) (by omega)
        generalize le (bs.take k) = n at *
        generalize nth bs k = x at *
        go_wp2
        refine ⟨⟨k + 1, by omega, by go_num, ?_⟩, by simp [intOf]; omega⟩
        rw [Ht.out, Hs.out, hlen]
        exact congrArg (Value.int .u64) (or_shl n x.toNat k hlt' (by omega) hb8)
      · have Hk := hide (show k = min 8 m by omega)
        have Hb := hide (show (!bs.isEmpty) = true by cases bs with
          | nil => simp at Hl; exact absurd Hl.out.symm h0
          | cons _ _ => rfl)
        have Ht := hide (show bs.take 8 = bs.take k by
          rw [Hk.out, ← Hl.out, List.take_eq_take_iff]
          omega)
        go_wp2
        all_goals go_ret2
        all_goals rw [Hb.out, Ht.out]
        all_goals refine ⟨rfl, ⟨_, _, _, hg.set_ 0 _, ?_⟩, grown_setCell _ _ _ _⟩
        all_goals first
          | exact RB.far (hr.drop_ _ (by omega)) hg (fun _ h => by cases h) _
          | exact RB.none_ _ _ _ _ (by omega) (by rw [List.length_drop, Hl.out]; omega)
          | (rw [show m - 8 = 0 by omega]; exact RB.none_ _ _ _ _ (by omega) (by rw [List.length_drop, Hl.out]; omega))

theorem words_any (A : Option Addr) (m c : Nat) (bs : List UInt8) (w : World) (h : RB w A m c bs) :
    Calls Try.prog 35 #[.slice A m c] w fun e w' => ∃ g, e = .returned (.func (.func 44) #[] #[.pointer (some ⟨g, 0, none⟩)]) ∧ w.heap.size ≤ g ∧ Wds w' g bs ∧ Below w.heap.size w w' := by
  have hmf : ∀ (fn : Fn) (first cap : Array Value) (w : World), (Instr.makeFunc fn first cap).run Try.prog w = .ok (.func fn first cap) w := fun _ _ _ _ => rfl
  go_enter Try.func35, Try.ntmps35
  go_wp2
  go_ret
  refine ⟨_, rfl, ?_, ⟨A, m, c, ?_, h.alloc _⟩, (Below.refl _ _).alloc (Nat.le_refl _) _⟩
  · omega
  · exact Blk.new w 30 [.slice A m c]
end Go.Proofs.Ytdgjbaeflbggpaa
