/- wire.Append writes the number behind the bytes; wire.Get reads it. -/
import Derived.Test.YtlobddhpkemklaaMem
import Derived.Outline
namespace Go.Proofs.Ytlobddhpkemklaa
open Go.RowKit
set_option linter.unusedVariables false

theorem right_any (s : Int) (w : World) : Calls Try.prog 46 #[.int .i64 s] w fun e w' => e = .returned (.bool (decide (1 ≤ s) && decide (s ≤ 8))) ∧ w = w' := by
  go_enter Try.func46, Try.ntmps46
  go_wp2
  · go_ret
    have h : 1 ≤ s := by assumption
    simp [h]
  · go_ret
    have h : s < 1 := by assumption
    have h' : ¬ 1 ≤ s := by omega
    simp [h']

/-- After k rounds of wire.Append's loop. -/
def appended (bs : List UInt8) (n sz k : Nat) : List Value := BV bs ++ BV ((be n sz).take k) ++ List.replicate (sz - k) (.int .u8 0)

theorem appended_zero (bs : List UInt8) (n sz m : Nat) (hm : bs.length = m) : (List.replicate (m + sz) (Value.int .u8 0)).take 0 ++ BV bs ++ (List.replicate (m + sz) (Value.int .u8 0)).drop (0 + m) = appended bs n sz 0 := by
  simp [appended, BV]

theorem appended_last (bs : List UInt8) (n sz : Nat) : appended bs n sz sz = BV (bs ++ be n sz) := by
  rw [appended, List.take_of_length_le (by rw [be_length]; omega)]
  simp [BV]

theorem appended_get (bs : List UInt8) (n sz m k : Nat) (hm : bs.length = m) (hk : k < sz) : (appended bs n sz k)[m + k]? = some (.int .u8 0) := by
  have hl : (BV bs ++ BV ((be n sz).take k)).length = m + k := by
    simp [BV, be_length, hm]
    omega
  rw [appended, List.getElem?_append_right (by omega), hl, List.getElem?_replicate]
  simp
  omega

theorem appended_set (bs : List UInt8) (n sz m k : Nat) (hm : bs.length = m) (hk : k < sz) :
    (appended bs n sz k).set (m + k) (.int .u8 ((n / 256 ^ (sz - 1 - k) % 256 : Nat) : Int)) = appended bs n sz (k + 1) := by
  have hl : (BV bs ++ BV ((be n sz).take k)).length = m + k := by
    simp [BV, be_length, hm]
    omega
  have hb : (be n sz).take (k + 1) = (be n sz).take k ++ [UInt8.ofNat (n / 256 ^ (sz - 1 - k))] := by
    rw [List.take_add_one, be_get n sz k hk]
    rfl
  rw [appended, List.set_append_right _ _ (by omega), hl, Nat.sub_self, appended, hb, BV_append, show sz - k = (sz - (k + 1)) + 1 by omega, List.replicate_succ, List.set_cons_zero]
  simp [BV]

theorem append_any (A : Option Addr) (m c : Nat) (bs : List UInt8) (n s : Int) (w : World) (h : RB w A m c bs) (h1 : 1 ≤ s) (h2 : s ≤ 8) (h0 : 0 ≤ n) (hn : n < 256 ^ s.toNat) (hm : m ≤ 70368744177664) :
    Calls Try.prog 44 #[.slice A m c, .int .u64 n, .int .i64 s] w fun e w' => ∃ A' n' c', e = .returned (.tuple #[.slice A' n' c', .int .i64 0]) ∧ OwnB w' w.heap.size A' n' c' (bs ++ be n.toNat s.toNat) ∧ Below w.heap.size w w' := by
  obtain ⟨sz, rfl⟩ := Int.eq_ofNat_of_zero_le (show 0 ≤ s by omega)
  obtain ⟨n, rfl⟩ := Int.eq_ofNat_of_zero_le h0
  rw [Int.toNat_natCast] at hn ⊢
  rw [Int.toNat_natCast]
  have hr : (decide (1 ≤ (sz : Int)) && decide ((sz : Int) ≤ 8)) = true := by simp; omega
  have hq : ((n : Int) / 2 ^ (8 * sz) != 0) = false := by
    have : (n : Int) / 2 ^ (8 * sz) = 0 := Int.ediv_eq_zero_of_lt h0 (by
      rw [Int.pow_mul]
      exact hn)
    simp [this]
  have hl := h.len
  have Hl := hide hl
  by_cases h8 : (sz : Int) < 8
  all_goals
    go_enter Try.func44, Try.ntmps44
    go_wp2_with (first
      | (go_at_call 46; refine (right_any _ _).mono ?_; rintro e w' ⟨rfl, rfl⟩)
      | (refine make_bytes rfl (.tmp 25) rfl (m + sz) _ rfl (by simp) (by omega) w.heap.size w (Below.refl _ _) (Nat.le_refl _) ?_
         intro w1 hb1 hB1 _ hz1)
      | (refine copy_bytes rfl (.tmp 27) (.tmp 28) rfl w.heap.size 0 (m + sz) (m + sz) _ A m c bs rfl rfl hb1 (h.below hB1) (by omega) (by simp) w.heap.size w hB1 (Nat.le_refl _) ?_
         intro w2 hb2 hB2 hz2 _))
    rw [appended_zero bs n sz m Hl.out] at hb2
    go_loopw [31] (fun i wr => ∃ k : Nat, k ≤ sz ∧ i = .int .i64 k ∧ Blk wr w.heap.size 5 (appended bs n sz k) ∧ Below w.heap.size w wr) (fun i _ => sz - (intOf i).toNat)
    case atStart => exact ⟨0, Nat.zero_le _, rfl, hb2, hB2⟩
    case round =>
      obtain ⟨k, hk, rfl, hbk, hBk⟩ := hrel
      by_cases hlt : k < sz
      · have hc1 := hbk.cell (m + k)
        rw [appended_get bs n sz m k Hl.out hlt] at hc1
        have hc2 := hbk.frozen (m + k)
        go_wp2
        have hv : (n : Int) / 2 ^ (8 * (sz - 1 - k)) % 256 = ((n / 256 ^ (sz - 1 - k) % 256 : Nat) : Int) := by
          rw [Int.pow_mul]
          simp
        rw [hv]
        refine ⟨⟨k + 1, by omega, by go_num, ?_, hBk.setCell (Nat.le_refl _) _⟩, by simp [intOf]; omega⟩
        have := hbk.set_ (m + k) (.int .u8 ((n / 256 ^ (sz - 1 - k) % 256 : Nat) : Int))
        rwa [appended_set bs n sz m k Hl.out hlt] at this
      · obtain rfl : k = sz := by omega
        go_wp2
        go_ret2
        rw [appended_last] at hbk
        exact ⟨_, _, _, rfl, OwnB.of_blk hbk (by simp [be_length, Hl.out]) (Nat.le_refl _) (by omega), hBk⟩

theorem get_any (A : Option Addr) (m c : Nat) (bs : List UInt8) (a s : Int) (w : World) (h : RB w A m c bs) (h1 : 1 ≤ s) (h2 : s ≤ 8) (h0 : 0 ≤ a) (hm : a + s ≤ m) :
    Calls Try.prog 34 #[.slice A m c, .int .i64 a, .int .i64 s] w fun e w' => e = .returned (.tuple #[.int .u64 (ofBe (sub bs a.toNat s.toNat) : Nat), .int .i64 0]) ∧ w = w' := by
  obtain ⟨sz, rfl⟩ := Int.eq_ofNat_of_zero_le (show 0 ≤ s by omega)
  obtain ⟨p, rfl⟩ := Int.eq_ofNat_of_zero_le h0
  rw [Int.toNat_natCast, Int.toNat_natCast]
  have hr : (decide (1 ≤ (sz : Int)) && decide ((sz : Int) ≤ 8)) = true := by simp; omega
  have Hl := hide h.len
  have hc := h.cap
  have hx := h.max
  have h3 : ¬ (p : Int) < 0 := by omega
  have h4 : ¬ ((m : Int) - sz < (p : Int)) := by omega
  go_enter Try.func34, Try.ntmps34
  go_wp2_with (first
    | (go_at_call 46; refine (right_any _ _).mono ?_; rintro e w' ⟨rfl, rfl⟩))
  go_loop [8, 24] (fun n i => ∃ k : Nat, k ≤ sz ∧ i = .int .i64 k ∧ n = .int .u64 (ofBe (sub bs p k) : Nat)) (fun _ i => sz - (intOf i).toNat)
  case atStart => exact ⟨0, Nat.zero_le _, rfl, rfl⟩
  case round =>
    obtain ⟨k, hk, rfl, rfl⟩ := hrel
    by_cases hlt : k < sz
    · have hl := Hl.out
      obtain ⟨b, o, rfl, hcell⟩ := h.at_ (p + k) (by omega)
      have hb := ofBe_le (l := sub bs p k) (k := 7) (by unfold sub; simp; omega)
      have Hs := hide (ofBe_snoc (sub bs p k) (nth bs (p + k)))
      have Hss := hide (sub_succ bs p k (by omega))
      have hb8 := (nth bs (p + k)).toNat_lt
      generalize ofBe (sub bs p k) = n at *
      generalize nth bs (p + k) = x at *
      clear hl
      go_wp2
      rw [or_snoc n x.toNat hb hb8]
      refine ⟨⟨k + 1, by omega, by go_num, ?_⟩, by simp [intOf]; omega⟩
      rw [Hss.out, Hs.out]
    · obtain rfl : k = sz := by omega
      go_wp2
      go_ret2
      exact ⟨rfl, rfl⟩
end Go.Proofs.Ytlobddhpkemklaa
