/- The reference's put and clock, and its Encode of a timestamp.
  SEATS: ptp -/
import Derived.Test.YtlobddhpkemklaaRefP
import Derived.Test.YtlobddhpkemklaaRef02
import Derived.Test.YtlobddhpkemklaaStepA
namespace Go.Proofs.Ytlobddhpkemklaa
open Go.RowKit
set_option linter.unusedVariables false

theorem low_byte (n : Int) (s k : Nat) (hk : k < s) : (low n s)[k]? = some (UInt8.ofNat ((n / 2 ^ (8 * (s - 1 - k)) % 256).toNat)) := by
  unfold low
  rw [be_get _ s k hk]
  congr 1
  have h1 : (0 : Int) ≤ n % 2 ^ (8 * s) := Int.emod_nonneg _ (by have : (0:Int) < 2 ^ (8 * s) := Int.pow_pos (by omega); omega)
  obtain ⟨r, hr⟩ := Int.eq_ofNat_of_zero_le h1
  have h2 : (0 : Int) ≤ n / 2 ^ (8 * (s - 1 - k)) % 256 := Int.emod_nonneg _ (by omega)
  obtain ⟨x, hx⟩ := Int.eq_ofNat_of_zero_le h2
  rw [hr, hx, Int.toNat_natCast, Int.toNat_natCast]
  have e : n / 2 ^ (8 * (s - 1 - k)) % 256 = ((r / 256 ^ (s - 1 - k) % 256 : Nat) : Int) := by
    have hp : (256 : Int) ^ (s - 1 - k) = 2 ^ (8 * (s - 1 - k)) := by rw [Int.pow_mul]; rfl
    rw [Int.natCast_emod, Int.natCast_ediv, Int.natCast_pow]
    show _ = ((r : Int) / 256 ^ (s - 1 - k)) % 256
    rw [hp, ← hr]
    have hs : 8 * s = 8 * (s - 1 - k) + (8 + 8 * k) := by omega
    rw [hs, Int.pow_add]
    have hb : (0 : Int) < 2 ^ (8 * (s - 1 - k)) := Int.pow_pos (by omega)
    generalize (2 : Int) ^ (8 * (s - 1 - k)) = b at *
    have hq : (2 : Int) ^ (8 + 8 * k) = 256 * 2 ^ (8 * k) := by rw [Int.pow_add]; rfl
    rw [hq]
    generalize (2 : Int) ^ (8 * k) = d
    have h3 : n = b * (256 * d) * (n / (b * (256 * d))) + n % (b * (256 * d)) := (Int.mul_ediv_add_emod _ _).symm
    have h4 : n / b = n % (b * (256 * d)) / b + 256 * d * (n / (b * (256 * d))) := by
      conv => lhs; rw [h3, Int.add_comm, Int.mul_assoc b, Int.add_mul_ediv_left _ _ (by omega)]
    rw [h4, Int.mul_assoc 256, Int.add_mul_emod_self_left]
  rw [hx] at e
  have e' : x = r / 256 ^ (s - 1 - k) % 256 := by exact_mod_cast e
  rw [e']
  apply UInt8.toNat_inj.1
  simp

theorem shr_any (n : Int) (s k : Nat) (hk : k < s) (hs : s ≤ 8 ∨ n = 0 ∧ s ≤ 10) : Op.shift .shr .i64 n .i64 (8 * ((s : Int) - 1 - k)) = pure (.int .i64 (n / 2 ^ (8 * (s - 1 - k)))) := by
  have e : (8 * ((s : Int) - 1 - k)).toNat = 8 * (s - 1 - k) := by omega
  rcases hs with hs | ⟨rfl, hs⟩
  · rw [shift_shr .i64 .i64 n _ (by omega) (by simp only [IntKind.bits]; omega), e]
  · have h0 : ¬ (8 * ((s : Int) - 1 - k)) < 0 := by omega
    unfold Op.shift
    rw [if_neg h0]
    simp

set_option maxHeartbeats 400000 in
theorem refPut_any (A : Option Addr) (m c : Nat) (bs : List UInt8) (n : Int) (s base : Nat) (w : World) (h : OwnB w base A m c bs) (hbase : base ≤ w.heap.size) (hs : s ≤ 8 ∨ n = 0 ∧ s ≤ 10) (hm : m ≤ 1000) :
    Calls Try.prog 30 #[.slice A m c, .int .i64 n, .int .i64 s] w fun e w' => ∃ A' n' c', e = .returned (.slice A' n' c') ∧ OwnB w' base A' n' c' (bs ++ low n s) ∧ Gr w w' (.slice A m c) (.slice A' n' c') := by
  have Hl := hide h.len
  go_enter Try.func30, Try.ntmps30
  go_wp2
  go_loopw [0, 7] (fun v i wr => ∃ k : Nat, k ≤ s ∧ i = .int .i64 ((s : Int) - 1 - k) ∧ (∃ A' n' c', v = .slice A' n' c' ∧ n' ≤ m + k ∧ OwnB wr base A' n' c' (bs ++ (low n s).take k)) ∧ Gr w wr (.slice A m c) v) (fun _ i _ => (intOf i + 1).toNat)
  case atStart => exact ⟨0, Nat.zero_le _, by go_num, ⟨_, _, _, rfl, by omega, h.cast (by simp)⟩, Gr.refl _ _⟩
  case round =>
    obtain ⟨k, hk, rfl, ⟨A1, n1, c1, rfl, hn1, hown⟩, hG⟩ := hrel
    have hsz := hG.1.size
    by_cases hlt : k < s
    · have hpos : (0 : Int) ≤ (s : Int) - 1 - k := by omega
      have hsh : ∀ w, (Op.shift .shr .i64 n .i64 (8 * ((s : Int) - 1 - k))).run Try.prog w = .ok (.int .i64 (n / 2 ^ (8 * (s - 1 - k)))) w := fun w => by rw [shr_any n s k hlt hs]; rfl
      have hv : ∀ z : Int, z = n / 2 ^ (8 * (s - 1 - k)) % 256 → [Value.int .u8 z] = BV [UInt8.ofNat ((n / 2 ^ (8 * (s - 1 - k)) % 256).toNat)] := by
        intro z hz
        have h1 : 0 ≤ n / 2 ^ (8 * (s - 1 - k)) % 256 := Int.emod_nonneg _ (by omega)
        have h2 : n / 2 ^ (8 * (s - 1 - k)) % 256 < 256 := Int.emod_lt_of_pos _ (by omega)
        rw [hz]
        generalize n / 2 ^ (8 * (s - 1 - k)) % 256 = y at *
        obtain ⟨y, rfl⟩ := Int.eq_ofNat_of_zero_le h1
        simp [BV]
        omega
      have Hv := hide hv
      clear hv
      go_wp2_with (refine append_lit rfl (.tmp 14) (.tmp 20) rfl _ n1 c1 _ wr.heap.size 1 1 _ [UInt8.ofNat ((n / 2 ^ (8 * (s - 1 - k)) % 256).toNat)] rfl rfl base (wr.alloc (.cells #[.int .u8 (n / 2 ^ (8 * (s - 1 - k)) % 256)] 5)) (hown.alloc _) (Blk.new wr _ _) (Hv.out _ rfl) rfl (by omega) (by omega) (by omega) (Below.refl _ _) (by simp; omega) ?_; intro A2 n2 c2 w2 hown2 hn2 hB2 hg2 hat2)
      refine ⟨⟨k + 1, by omega, ret_num (by omega), ⟨_, _, _, rfl, by have := hn2.out; omega, hown2.cast ?_⟩, hG.trans ((Gr.alloc _ _ _).trans ⟨hg2, hat2.imp id (fun e k hk => by rw [e] at hk; cases hk; exact Nat.le_refl _)⟩)⟩, by simp [intOf]; omega⟩
      rw [List.take_add_one, low_byte n s k hlt, List.append_assoc]
      rfl
    · obtain rfl : s = k := by omega
      go_wp2
      go_ret
      exact ⟨_, _, _, rfl, hown.cast (by rw [List.take_of_length_le (by rw [low_length]; omega)]), hG⟩

theorem refClock_any (A : Option Addr) (m c : Nat) (bs : List UInt8) (n : Int) (w : World) (h : RB w A m c bs) (h0 : 0 ≤ n ∧ n ≤ 18446744073709551615) (hm : m ≤ 1000) :
    Calls Try.prog 31 #[.slice A m c, .int .u64 n] w fun e w' => ∃ A' n' c', e = .returned (.slice A' n' c') ∧ OwnB w' w.heap.size A' n' c' (bs ++ be n.toNat 8) ∧ Below w.heap.size w w' := by
  have H := hide (fun w h => append02_any A m c bs n 8 w h (by omega) (by omega) h0.1 (by simp only [Int.reduceToNat, Int.reducePow]; omega) (by omega))
  go_enter Try.func31, Try.ntmps31
  go_wp2_with (go_at_call 45; refine (H.out _ h).mono ?_; rintro e w1 ⟨A1, n1, c1, rfl, hown, hB⟩)
  go_ret
  exact ⟨_, _, _, rfl, hown, hB⟩

theorem refStampEnc_any (sec nano : Int) (w : World) (h : stampOk sec nano = true) : Calls Try.prog 33 #[.agg #[.int .i64 sec, .int .i64 nano]] w fun e w' => ∃ A n c, e = .returned (.tuple #[.slice A n c, .int .i64 0]) ∧ OwnB w' w.heap.size A n c (stampBytes sec nano) ∧ Below w.heap.size w w' := by
  obtain ⟨⟨h1, h2⟩, h3, h4⟩ := stamp_ok h
  have hse : stampErr sec nano = 0 := by unfold stampErr; rw [h]; rfl
  have HC := hide (fun w => refStamp_any sec nano w)
  rw [hse] at HC
  have H := hide (fun w => append02_any none 0 0 [] sec 6 w (RB.nil _) (by omega) (by omega) h1 (by simp only [Int.reduceToNat, Int.reducePow]; omega) (by omega))
  have H4 := hide (fun A m c bs w hr hm => append02_any A m c bs nano 4 w hr (by omega) (by omega) h3 (by simp only [Int.reduceToNat, Int.reducePow]; omega) hm)
  have hN := Blk.new w 24 [.int .i64 sec, .int .i64 nano]
  have hW := (Below.refl w.heap.size w).alloc (Nat.le_refl _) (.cells #[.int .i64 sec, .int .i64 nano] 24)
  have q := range21 hN
  clear h hse
  go_enter Try.func33, Try.ntmps33
  go_wp2_with fail
  refine (HC.out _).mono ?_
  rintro e w1 ⟨rfl, hB1⟩
  have hN1 := hN.below' hB1
  have hW1 := below_step hW hB1 hW.size
  have c0 := hN1.cell 0
  simp only [List.getElem?_cons_zero] at c0
  go_wp2_with fail
  refine (H.out _).mono ?_
  rintro e w2 ⟨A2, n2, d2, rfl, hown2, hB2⟩
  have hN2 := hN1.below' hB2
  have hW2 := below_step hW1 hB2 hW1.size
  have c0 := hN2.cell 1
  simp only [List.getElem?_cons_zero, List.getElem?_cons_succ] at c0
  go_wp2_with fail
  refine (H4.out _ _ _ _ _ hown2.rb (by have := hown2.rb.len; rw [List.length_append, be_length] at this; simp at this; omega)).mono ?_
  rintro e w3 ⟨A3, n3, d3, rfl, hown3, hB3⟩
  have hW3 := below_step hW2 hB3 hW2.size
  go_wp2
  go_ret2
  exact ⟨_, _, _, rfl, hown3.mono hW2.size, hW3⟩
end Go.Proofs.Ytlobddhpkemklaa
