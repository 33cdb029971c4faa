/- The reference's get, signed, id and zeros.
  SEATS: ptp -/
import Derived.Test.YtlobddhpkemklaaRefP
import Derived.Test.YtlobddhpkemklaaPtpP
import Derived.Test.YtlobddhpkemklaaRef02
namespace Go.Proofs.Ytlobddhpkemklaa
open Go.RowKit
set_option linter.unusedVariables false

theorem or_snoc_i (n x : Nat) (hn : n < 256 ^ 7) (hx : x < 256) : bits .or .i64 (IntKind.i64.wrap ((n : Int) * 256)) (x : Int) = IntKind.i64.wrap ((n * 256 + x : Nat) : Int) := by
  show IntKind.i64.wrap (((BitVec.ofInt 64 (IntKind.i64.wrap ((n : Int) * 256)) ||| BitVec.ofInt 64 (x : Int)).toNat : Nat) : Int) = _
  congr 2
  rw [BitVec.toNat_or, BitVec.toNat_ofInt, BitVec.toNat_ofInt]
  have e1 : (IntKind.i64.wrap ((n : Int) * 256) % ((2 ^ 64 : Nat) : Int)).toNat = n * 256 := by
    rw [IntKind.wrap_i64, show ((2 ^ 64 : Nat) : Int) = 18446744073709551616 from rfl]
    simp only [Nat.reducePow] at hn
    omega
  have e2 : ((x : Int) % ((2 ^ 64 : Nat) : Int)).toNat = x := by
    rw [show ((2 ^ 64 : Nat) : Int) = 18446744073709551616 from rfl]
    omega
  rw [e1, e2]
  have := Nat.two_pow_add_eq_or_of_lt (i := 8) hx n
  rw [show n * 256 = 2 ^ 8 * n by omega]
  exact this.symm
theorem wrap_small (n : Nat) (h : n < 9223372036854775808) : IntKind.i64.wrap (n : Int) = (n : Int) := by
  rw [IntKind.wrap_i64]
  omega
theorem wrap_sgn8 (n : Nat) (h : n < 256 ^ 8) : IntKind.i64.wrap (n : Int) = sgn n 8 := by
  rw [IntKind.wrap_i64]
  unfold sgn
  simp only [Nat.reducePow, Nat.reduceMul, Nat.reduceSub, Int.reducePow] at *
  split <;> omega
theorem wrap_mul256 (z : Int) : IntKind.i64.wrap (IntKind.i64.wrap z * 256) = IntKind.i64.wrap (z * 256) := by
  rw [IntKind.wrap_i64, IntKind.wrap_i64, IntKind.wrap_i64]
  omega

theorem refGet_wrap (b o m c : Nat) (bs : List UInt8) (p s : Nat) (w : World) (h : RB w (some ⟨b, o, none⟩) m c bs) (hs : s ≤ 8) (hm : p + s ≤ m) (hp : p ≤ 1000) :
    Calls Try.prog 36 #[.slice (some ⟨b, o, none⟩) m c, .int .i64 p, .int .i64 s] w fun e w' => e = .returned (.int .i64 (IntKind.i64.wrap (num bs p s : Nat))) ∧ w = w' := by
  have Hl := hide h.len
  have hc := h.cap
  have hx := h.max
  go_enter Try.func36, Try.ntmps36
  go_wp2
  go_loop [7, 8] (fun n i => ∃ k : Nat, k ≤ s ∧ i = .int .i64 k ∧ n = .int .i64 (IntKind.i64.wrap (num bs p k : Nat))) (fun _ i => s - (intOf i).toNat)
  case atStart => exact ⟨0, Nat.zero_le _, rfl, rfl⟩
  case round =>
    obtain ⟨k, hk, rfl, rfl⟩ := hrel
    by_cases hlt : k < s
    · have hl := Hl.out
      obtain ⟨b1, o1, e1, hcell⟩ := h.at_ (p + k) (by omega)
      injection e1 with e1
      injection e1 with e2 e3 e4
      subst e2 e3
      have hb := ofBe_le (l := sub bs p k) (k := 7) (by unfold sub; simp; omega)
      have Hn := hide (show num bs p (k + 1) = num bs p k * 256 + (nth bs (p + k)).toNat by
        unfold num
        rw [sub_succ bs p k (by omega), ofBe_snoc])
      have hb8 := (nth bs (p + k)).toNat_lt
      have hb7 : num bs p k < 256 ^ 7 := hb
      have Hw := hide (wrap_mul256 ((num bs p k : Nat) : Int))
      have Ho := hide (or_snoc_i (num bs p k) (nth bs (p + k)).toNat hb7 hb8)
      clear hb hb7
      generalize num bs p k = n at *
      generalize nth bs (p + k) = x at *
      generalize hy : IntKind.i64.wrap (n : Int) = y at *
      clear hl hy
      go_wp2
      refine ⟨⟨k + 1, by omega, by go_num, ?_⟩, by simp [intOf]; omega⟩
      rw [show wrap64 (y * 256) = IntKind.i64.wrap (y * 256) by rw [IntKind.wrap_i64]; unfold wrap64; omega, Hw.out, Ho.out, Hn.out]
    · obtain rfl : k = s := by omega
      go_wp2
      go_ret
      exact ⟨rfl, rfl⟩
theorem refGet_any (b o m c : Nat) (bs : List UInt8) (p s : Nat) (w : World) (h : RB w (some ⟨b, o, none⟩) m c bs) (hs : s ≤ 7) (hm : p + s ≤ m) (hp : p ≤ 1000) :
    Calls Try.prog 36 #[.slice (some ⟨b, o, none⟩) m c, .int .i64 p, .int .i64 s] w fun e w' => e = .returned (.int .i64 (num bs p s : Nat)) ∧ w = w' := by
  have h7 : num bs p s < 256 ^ 7 := ofBe_le (by unfold sub; simp; omega)
  have := refGet_wrap b o m c bs p s w h (by omega) hm hp
  rwa [wrap_small _ (Nat.lt_trans h7 (by decide))] at this
theorem refGet8_any (b o m c : Nat) (bs : List UInt8) (p : Nat) (w : World) (h : RB w (some ⟨b, o, none⟩) m c bs) (hm : p + 8 ≤ m) (hp : p ≤ 1000) :
    Calls Try.prog 36 #[.slice (some ⟨b, o, none⟩) m c, .int .i64 p, .int .i64 8] w fun e w' => e = .returned (.int .i64 (sgn (num bs p 8) 8)) ∧ w = w' := by
  have h8 : num bs p 8 < 256 ^ 8 := ofBe_le (by unfold sub; simp; omega)
  have := refGet_wrap b o m c bs p 8 w h (by omega) hm hp
  rwa [wrap_sgn8 _ h8] at this

theorem refSigned1_any (n : Nat) (w : World) (hn : n < 256 ^ 1) :
    Calls Try.prog 39 #[.int .i64 n, .int .i64 8] w fun e w' => e = .returned (.int .i64 (sgn n 1)) ∧ w = w' := by
  simp only [Nat.reducePow] at hn
  by_cases h : n < 128
  · have e : sgn n 1 = (n : Int) := by
      unfold sgn
      rw [if_pos h]
    rw [e]
    have h' : ¬ (128 : Int) ≤ (n : Int) := by omega
    clear e
    go_enter Try.func39, Try.ntmps39
    go_wp2
    go_ret
    exact ⟨rfl, rfl⟩
  · have e : sgn n 1 = (n : Int) - 256 := by
      unfold sgn
      rw [if_neg h]
      rfl
    rw [e]
    have h' : (128 : Int) ≤ (n : Int) := by omega
    clear e
    go_enter Try.func39, Try.ntmps39
    go_wp2
    go_ret
    exact ⟨rfl, rfl⟩

theorem refSigned2_any (n : Nat) (w : World) (hn : n < 256 ^ 2) :
    Calls Try.prog 39 #[.int .i64 n, .int .i64 16] w fun e w' => e = .returned (.int .i64 (sgn n 2)) ∧ w = w' := by
  simp only [Nat.reducePow] at hn
  by_cases h : n < 32768
  · have e : sgn n 2 = (n : Int) := by
      unfold sgn
      rw [if_pos h]
    rw [e]
    have h' : ¬ (32768 : Int) ≤ (n : Int) := by omega
    clear e
    go_enter Try.func39, Try.ntmps39
    go_wp2
    go_ret
    exact ⟨rfl, rfl⟩
  · have e : sgn n 2 = (n : Int) - 65536 := by
      unfold sgn
      rw [if_neg h]
      rfl
    rw [e]
    have h' : (32768 : Int) ≤ (n : Int) := by omega
    clear e
    go_enter Try.func39, Try.ntmps39
    go_wp2
    go_ret
    exact ⟨rfl, rfl⟩

theorem refId_any (A : Option Addr) (m c : Nat) (bs : List UInt8) (p : Nat) (w : World) (h : RB w A m c bs) (hm : p + 8 ≤ m) :
    Calls Try.prog 38 #[.slice A m c, .int .i64 p] w fun e w' => e = .returned (.int .u64 (num bs p 8 : Nat)) ∧ w = w' := by
  have H := hide (fun w h => get02_any A m c bs p 8 w h (by omega) (by omega) (by omega) (by omega))
  go_enter Try.func38, Try.ntmps38
  go_wp2_with (go_at_call 52; refine (H.out _ h).mono ?_; rintro e w1 ⟨rfl, rfl⟩)
  go_ret
  exact ⟨rfl, rfl⟩

/-- Are the bytes 0? -/
def zerosB (bs : List UInt8) (p s : Nat) : Bool := (sub bs p s).all (· == 0)
theorem zerosB_succ (bs : List UInt8) (p k : Nat) (h : p + k < bs.length) : zerosB bs p (k + 1) = (zerosB bs p k && nth bs (p + k) == 0) := by
  unfold zerosB
  rw [sub_succ bs p k h]
  simp
theorem zerosB_le (bs : List UInt8) (p : Nat) {k s : Nat} (hk : k ≤ s) (h : zerosB bs p k = false) : zerosB bs p s = false := by
  unfold zerosB sub at *
  rw [List.all_eq_false] at *
  obtain ⟨x, hx, hn⟩ := h
  refine ⟨x, ?_, hn⟩
  rw [← Nat.min_eq_left hk, ← List.take_take] at hx
  exact List.mem_of_mem_take hx
theorem refZeros_any (b o m c : Nat) (bs : List UInt8) (p s : Nat) (w : World) (h : RB w (some ⟨b, o, none⟩) m c bs) (hs : s ≤ 100) (hm : p + s ≤ m) (hp : p ≤ 1000) :
    Calls Try.prog 51 #[.slice (some ⟨b, o, none⟩) m c, .int .i64 p, .int .i64 s] w fun e w' => e = .returned (.bool (zerosB bs p s)) ∧ w = w' := by
  have Hl := hide h.len
  have hc := h.cap
  have hx := h.max
  go_enter Try.func51, Try.ntmps51
  go_wp2
  go_loop [7] (fun i => ∃ k : Nat, k ≤ s ∧ i = .int .i64 k ∧ zerosB bs p k = true) (fun i => s - (intOf i).toNat)
  case atStart => exact ⟨0, Nat.zero_le _, rfl, rfl⟩
  case round =>
    obtain ⟨k, hk, rfl, hz⟩ := hrel
    by_cases hlt : k < s
    · have hl := Hl.out
      obtain ⟨b1, o1, e1, hcell⟩ := h.at_ (p + k) (by omega)
      injection e1 with e1
      injection e1 with e2 e3 e4
      subst e2 e3
      have hsucc := zerosB_succ bs p k (by omega)
      rw [hz, Bool.true_and] at hsucc
      have hb8 := (nth bs (p + k)).toNat_lt
      have hx0 : nth bs (p + k) = 0 ↔ (nth bs (p + k)).toNat = 0 := ⟨fun e => by rw [e]; rfl, fun e => UInt8.toNat_inj.1 e⟩
      generalize nth bs (p + k) = x at *
      by_cases hx : x.toNat = 0
      · rw [show (x == 0) = true by simpa using hx0.2 hx] at hsucc
        rw [hx] at hcell
        clear hl hx hx0
        go_wp2
        exact ⟨⟨k + 1, by omega, by go_num, hsucc⟩, by simp [intOf]; omega⟩
      · rw [show (x == 0) = false by simpa using fun e => hx (hx0.1 e)] at hsucc
        have hF := zerosB_le bs p (show k + 1 ≤ s by omega) hsucc
        have hne : ((x.toNat : Int) != 0) = true := by simpa using hx
        clear hl hx hx0
        go_wp2
        go_ret
        exact ⟨rfl, rfl⟩
    · obtain rfl : k = s := by omega
      go_wp2
      go_ret
      exact ⟨rfl, rfl⟩
end Go.Proofs.Ytlobddhpkemklaa
