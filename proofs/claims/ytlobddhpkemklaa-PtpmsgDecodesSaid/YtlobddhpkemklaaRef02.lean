/- The reference of layer 2 writes and reads the same bytes. -/
import Derived.Test.YtlobddhpkemklaaWire
namespace Go.Proofs.Ytlobddhpkemklaa
open Go.RowKit
set_option linter.unusedVariables false

theorem fits_any (n s : Int) (w : World) (h1 : 1 ≤ s) (h2 : s ≤ 8) (h0 : 0 ≤ n) (hn : n < 256 ^ s.toNat) :
    Calls Try.prog 54 #[.int .u64 n, .int .i64 s] w fun e w' => e = .returned (.bool true) ∧ w = w' := by
  obtain ⟨sz, rfl⟩ := Int.eq_ofNat_of_zero_le (show 0 ≤ s by omega)
  rw [Int.toNat_natCast] at hn
  have hq : (n / 2 ^ (8 * sz) == 0) = true := by
    have : n / 2 ^ (8 * sz) = 0 := Int.ediv_eq_zero_of_lt h0 (by
      rw [Int.pow_mul]
      exact hn)
    simp [this]
  by_cases h8 : sz = 8
  · subst h8
    go_enter Try.func54, Try.ntmps54
    go_wp2
    go_ret
    exact ⟨rfl, rfl⟩
  · have h8' : ((sz : Int) == 8) = false := by simp; omega
    go_enter Try.func54, Try.ntmps54
    go_wp2
    go_ret
    exact ⟨rfl, rfl⟩

theorem ret_num {k : IntKind} {a b : Int} (h : a = b) : Value.int k a = .int k b := by rw [h]

set_option maxHeartbeats 400000 in
theorem append02_any (A : Option Addr) (m c : Nat) (bs : List UInt8) (n s : Int) (w : World) (h : RB w A m c bs) (h1 : 1 ≤ s) (h2 : s ≤ 8) (h0 : 0 ≤ n) (hn : n < 256 ^ s.toNat) (hm : m ≤ 70368744177664) :
    Calls Try.prog 45 #[.slice A m c, .int .u64 n, .int .i64 s] w fun e w' => ∃ A' n' c', e = .returned (.tuple #[.slice A' n' c', .int .i64 0]) ∧ OwnB w' w.heap.size A' n' c' (bs ++ be n.toNat s.toNat) ∧ Below w.heap.size w w' := by
  have Hf := hide (fun w => fits_any n s w h1 h2 h0 hn)
  obtain ⟨sz, rfl⟩ := Int.eq_ofNat_of_zero_le (show 0 ≤ s by omega)
  obtain ⟨n, rfl⟩ := Int.eq_ofNat_of_zero_le h0
  rw [Int.toNat_natCast, Int.toNat_natCast]
  clear hn
  have Hl := hide h.len
  go_enter Try.func45, Try.ntmps45
  go_wp2_with (first
    | (go_at_call 54; refine (Hf.out _).mono ?_; rintro e w' ⟨rfl, rfl⟩)
    | (refine append_bytes rfl (.tmp 20) (.tmp 21) rfl _ 0 0 [] A m c bs rfl rfl w.heap.size w (OwnB.empty w w.heap.size (Nat.le_refl _)) (h.alloc _) (by omega) ((Below.refl _ _).alloc (Nat.le_refl _) _) (by simp) ?_; intro A1 n1 c1 w1 hown1 hn1 hB1 _ _))
  go_loopw [8, 9] (fun v i wr => ∃ k : Nat, k ≤ sz ∧ i = .int .i64 ((sz : Int) - 1 - k) ∧ (∃ A' n' c', v = .slice A' n' c' ∧ n' ≤ m + k ∧ OwnB wr w.heap.size A' n' c' (bs ++ (be n sz).take k)) ∧ Below w.heap.size w wr) (fun _ i _ => (intOf i + 1).toNat)
  case atStart => exact ⟨0, Nat.zero_le _, by go_num, ⟨_, _, _, rfl, by have := hn1.out; omega, hown1.cast (by simp)⟩, hB1⟩
  case round =>
    clear hB1 hown1
    obtain ⟨k, hk, rfl, ⟨A1, n1, c1, rfl, hn1, hown⟩, hB⟩ := hrel
    by_cases hlt : k < sz
    · have hpos : (0 : Int) ≤ (sz : Int) - 1 - k := by omega
      have hv : ∀ z : Int, z = (n : Int) / 2 ^ (8 * (sz - 1 - k)) % 256 → [Value.int .u8 z] = BV [UInt8.ofNat (n / 256 ^ (sz - 1 - k))] := by
        intro z hz
        rw [hz, Int.pow_mul]
        simp [BV]
      have Hv := hide hv
      clear hv
      go_wp2_with (refine append_lit rfl (.tmp 29) (.tmp 35) rfl _ n1 c1 _ wr.heap.size 1 1 _ [UInt8.ofNat (n / 256 ^ (sz - 1 - k))] rfl rfl w.heap.size w (hown.alloc _) (Blk.new wr _ _) (Hv.out _ rfl) rfl (by omega) (by omega) (by omega) (hB.alloc hB.size _) (by simp; have := hB.size; omega) ?_; intro A2 n2 c2 w2 hown2 hn2 hB2 _ _)
      refine ⟨⟨k + 1, by omega, ret_num (by omega), ⟨_, _, _, rfl, by have := hn2.out; omega, hown2.cast ?_⟩, hB2⟩, by simp [intOf]; omega⟩
      rw [List.take_add_one, be_get n sz k hlt, List.append_assoc]
      rfl
    · obtain rfl : sz = k := by omega
      go_wp2
      go_ret2
      exact ⟨_, _, _, rfl, hown.cast (by rw [List.take_of_length_le (by rw [be_length]; omega)]), hB⟩

theorem get02_any (A : Option Addr) (m c : Nat) (bs : List UInt8) (a s : Int) (w : World) (h : RB w A m c bs) (h1 : 1 ≤ s) (h2 : s ≤ 8) (h0 : 0 ≤ a) (hm : a + s ≤ m) :
    Calls Try.prog 52 #[.slice A m c, .int .i64 a, .int .i64 s] w fun e w' => e = .returned (.tuple #[.int .u64 (ofBe (sub bs a.toNat s.toNat) : Nat), .int .i64 0]) ∧ w = w' := by
  obtain ⟨sz, rfl⟩ := Int.eq_ofNat_of_zero_le (show 0 ≤ s by omega)
  obtain ⟨p, rfl⟩ := Int.eq_ofNat_of_zero_le h0
  rw [Int.toNat_natCast, Int.toNat_natCast]
  have Hl := hide h.len
  have hc := h.cap
  have hx := h.max
  have h3 : ¬ (p : Int) < 0 := by omega
  have h4 : ¬ ((m : Int) < (p : Int)) := by omega
  have h5 : ¬ ((m : Int) - p < (sz : Int)) := by omega
  go_enter Try.func52, Try.ntmps52
  go_wp2
  go_loop [8, 9] (fun n i => ∃ k : Nat, k ≤ sz ∧ i = .int .i64 k ∧ n = .int .u64 (ofBe (sub bs p k) : Nat)) (fun _ i => sz - (intOf i).toNat)
  case atStart => exact ⟨0, Nat.zero_le _, rfl, rfl⟩
  case round =>
    obtain ⟨k, hk, rfl, rfl⟩ := hrel
    by_cases hlt : k < sz
    · have hl := Hl.out
      obtain ⟨b, o, rfl, hcell⟩ := h.at_ (p + k) (by omega)
      have hb := ofBe_le (l := sub bs p k) (k := 7) (by unfold sub; simp; omega)
      have Hs := hide (ofBe_snoc (sub bs p k) (nth bs (p + k)))
      have Hss := hide (sub_succ bs p k (by omega))
      have hb8 := (nth bs (p + k)).toNat_lt
      generalize ofBe (sub bs p k) = n at *
      generalize nth bs (p + k) = x at *
      clear hl
      go_wp2
      rw [or_snoc n x.toNat hb hb8]
      refine ⟨⟨k + 1, by omega, by go_num, ?_⟩, by simp [intOf]; omega⟩
      rw [Hss.out, Hs.out]
    · obtain rfl : k = sz := by omega
      go_wp2
      go_ret2
      exact ⟨rfl, rfl⟩
end Go.Proofs.Ytlobddhpkemklaa
