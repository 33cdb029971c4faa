/- What was sealed is opened: no program in sight.
  SEATS: cookie guard -/
import Derived.Test.YtdgjbaeflbggpaaCOpen
namespace Go.Proofs.Ytdgjbaeflbggpaa
open Go.RowKit
set_option linter.unusedVariables false

theorem ck_be_snoc (n b : Nat) (hb : b < 256) : ∀ k, be (n * 256 + b) (k + 1) = be n k ++ [UInt8.ofNat b]
  | 0 => by
    have : UInt8.ofNat (n * 256 + b) = UInt8.ofNat b := by
      apply UInt8.toNat.inj
      simp
    simp [be, this]
  | k + 1 => by
    have h1 : (n * 256 + b) / 256 ^ (k + 1) = n / 256 ^ k := by
      rw [Nat.pow_succ, Nat.mul_comm (256 ^ k) 256, ← Nat.div_div_eq_div_mul, show (n * 256 + b) / 256 = n by omega]
    rw [be, h1, ck_be_snoc n b hb k, be]
    rfl

theorem ck_ofBe_be : ∀ (k n : Nat), n < 256 ^ k → ofBe (be n k) = n
  | 0, n, h => by
    simp at h
    subst h
    rfl
  | k + 1, n, h => by
    have h1 : n / 256 < 256 ^ k := by
      rw [Nat.pow_succ] at h
      omega
    rw [show n = n / 256 * 256 + n % 256 by omega, ck_be_snoc _ _ (Nat.mod_lt _ (by omega)) k, ofBe_snoc, ck_ofBe_be k _ h1]
    have : (UInt8.ofNat (n % 256)).toNat = n % 256 := by simp
    omega

theorem sub_mid (a b c : List UInt8) : sub (a ++ b ++ c) a.length b.length = b := by
  unfold sub
  rw [List.append_assoc, List.drop_left, List.take_left]

theorem xor_twice (x y : Int) (hx : 0 ≤ x ∧ x ≤ 18446744073709551615) (hy : 0 ≤ y ∧ y ≤ 18446744073709551615) : bits .xor .u64 (bits .xor .u64 x y) y = x := by
  obtain ⟨x, rfl⟩ := Int.eq_ofNat_of_zero_le hx.1
  obtain ⟨y, rfl⟩ := Int.eq_ofNat_of_zero_le hy.1
  have h : x ^^^ y < 18446744073709551616 := Nat.xor_lt_two_pow (n := 64) (by omega) (by omega)
  rw [bits_xor_u64_nat x y (by omega) (by omega), bits_xor_u64_nat _ y h (by omega), Nat.xor_assoc, Nat.xor_self, Nat.xor_zero]

section
variable (s : Int) (g : Nat) (nonce : Int) (x : Nat → Int)

theorem flat_split (k i : Nat) (hi : i < k) : ∃ a c, ((List.range k).flatMap fun j => be (hid x s g nonce j).toNat 8) = a ++ be (hid x s g nonce i).toNat 8 ++ c ∧ a.length = 8 * i := by
  refine ⟨(List.range i).flatMap fun j => be (hid x s g nonce j).toNat 8, ((List.range (k - (i + 1))).map (i + 1 + ·)).flatMap fun j => be (hid x s g nonce j).toNat 8, ?_, ?_⟩
  · rw [show k = (i + 1) + (k - (i + 1)) by omega, List.range_add, List.flatMap_append, List.range_succ, List.flatMap_append]
    simp
  · have := cookieAt_length s g nonce x i
    unfold cookieAt at this
    rw [List.length_append, List.length_append, be_length, be_length] at this
    omega

theorem cookie_len : (cookieOf s g nonce x).length = 52 := by
  rw [cookieOf, List.length_append, cookieAt_length, be_length]

theorem cookie_gen (hg : g < 4294967296) : ckGen (cookieOf s g nonce x) = g := by
  have h : cookieOf s g nonce x = [] ++ be g 4 ++ (be nonce.toNat 8 ++ (((List.range 4).flatMap fun j => be (hid x s g nonce j).toNat 8) ++ be (mac (dkey s g tagLb 1) (dkey s g tagLb 2) (cookieAt s g nonce x 4)).toNat 8)) := by
    simp [cookieOf, cookieAt, List.append_assoc]
  have := sub_mid [] (be g 4) (be nonce.toNat 8 ++ (((List.range 4).flatMap fun j => be (hid x s g nonce j).toNat 8) ++ be (mac (dkey s g tagLb 1) (dkey s g tagLb 2) (cookieAt s g nonce x 4)).toNat 8))
  rw [← h, be_length] at this
  unfold ckGen
  rw [show ([] : List UInt8).length = 0 from rfl] at this
  rw [this, ck_ofBe_be 4 g (by omega)]

theorem cookie_nonce (hn : 0 ≤ nonce ∧ nonce ≤ 18446744073709551615) : ckNonce (cookieOf s g nonce x) = nonce := by
  have h : cookieOf s g nonce x = be g 4 ++ be nonce.toNat 8 ++ (((List.range 4).flatMap fun j => be (hid x s g nonce j).toNat 8) ++ be (mac (dkey s g tagLb 1) (dkey s g tagLb 2) (cookieAt s g nonce x 4)).toNat 8) := by
    simp [cookieOf, cookieAt, List.append_assoc]
  have := sub_mid (be g 4) (be nonce.toNat 8) (((List.range 4).flatMap fun j => be (hid x s g nonce j).toNat 8) ++ be (mac (dkey s g tagLb 1) (dkey s g tagLb 2) (cookieAt s g nonce x 4)).toNat 8)
  rw [← h, be_length, be_length] at this
  unfold ckNonce
  rw [this, ck_ofBe_be 8 _ (by omega)]
  omega

theorem cookie_num (i : Nat) (hi : i < 4) : ckNum (cookieOf s g nonce x) i = hid x s g nonce i := by
  obtain ⟨a, c, he, ha⟩ := flat_split s g nonce x 4 i hi
  have hr := hid_range x s g nonce i
  have h : cookieOf s g nonce x = (be g 4 ++ be nonce.toNat 8 ++ a) ++ be (hid x s g nonce i).toNat 8 ++ (c ++ be (mac (dkey s g tagLb 1) (dkey s g tagLb 2) (cookieAt s g nonce x 4)).toNat 8) := by
    rw [cookieOf, show cookieAt s g nonce x 4 = be g 4 ++ be nonce.toNat 8 ++ (a ++ be (hid x s g nonce i).toNat 8 ++ c) from by rw [← he]; rfl]
    simp only [List.append_assoc]
  have := sub_mid (be g 4 ++ be nonce.toNat 8 ++ a) (be (hid x s g nonce i).toNat 8) (c ++ be (mac (dkey s g tagLb 1) (dkey s g tagLb 2) (cookieAt s g nonce x 4)).toNat 8)
  rw [← h, List.length_append, List.length_append, be_length, be_length, be_length, ha] at this
  unfold ckNum
  rw [this, ck_ofBe_be 8 _ (by omega)]
  omega

theorem cookie_tag : ckTag (cookieOf s g nonce x) = mac (dkey s g tagLb 1) (dkey s g tagLb 2) (cookieAt s g nonce x 4) := by
  have hr := mac_range (dkey s g tagLb 1) (dkey s g tagLb 2) (cookieAt s g nonce x 4)
  have := sub_mid (cookieAt s g nonce x 4) (be (mac (dkey s g tagLb 1) (dkey s g tagLb 2) (cookieAt s g nonce x 4)).toNat 8) []
  rw [List.append_nil, cookieAt_length, be_length] at this
  unfold ckTag cookieOf
  rw [show 44 = 12 + 8 * 4 from rfl, this, ck_ofBe_be 8 _ (by omega)]
  omega

theorem cookie_body : (cookieOf s g nonce x).take 44 = cookieAt s g nonce x 4 := by
  rw [cookieOf, List.take_left' (cookieAt_length s g nonce x 4)]

theorem hid_hid (i : Nat) (hx : 0 ≤ x i ∧ x i ≤ 18446744073709551615) : bits .xor .u64 (hid x s g nonce i) (padN s g nonce i) = x i :=
  xor_twice _ _ hx (mix_range _ _)

/-- What was sealed is opened as long as its generation is kept. -/
theorem open_sealed (a b c d : Int) (gen keep : Nat) (hg : 1 ≤ g ∧ g ≤ gen ∧ gen < g + keep) (h32 : gen < 4294967296) (hn : 0 ≤ nonce ∧ nonce ≤ 18446744073709551615)
    (ha : 0 ≤ a ∧ a ≤ 18446744073709551615) (hb : 0 ≤ b ∧ b ≤ 18446744073709551615) (hc : 0 ≤ c ∧ c ≤ 18446744073709551615) (hd : 0 ≤ d ∧ d ≤ 18446744073709551615) :
    openRes s gen keep (cookieOf s g nonce (four a b c d)) = .tuple #[.agg #[.int .u64 a, .int .u64 b], .agg #[.int .u64 c, .int .u64 d], .int .i64 0] := by
  have e (i : Nat) (hi : i < 4) (hx : 0 ≤ four a b c d i ∧ four a b c d i ≤ 18446744073709551615) : hid (ckNum (cookieOf s g nonce (four a b c d))) s g nonce i = four a b c d i := by
    show bits .xor .u64 (ckNum (cookieOf s g nonce (four a b c d)) i) (padN s g nonce i) = _
    rw [cookie_num _ _ _ _ i hi, hid_hid _ _ _ _ _ hx]
  unfold openRes
  rw [cookie_gen _ _ _ _ (by omega), cookie_nonce _ _ _ _ hn, cookie_tag, cookie_body, if_neg (by omega), if_pos rfl, e 0 (by omega) ha, e 1 (by omega) hb, e 2 (by omega) hc, e 3 (by omega) hd]
  rfl

theorem open_stale (a b c d : Int) (gen keep : Nat) (hg : g < 1 ∨ gen < g ∨ g + keep ≤ gen) (h32 : g < 4294967296) :
    openRes s gen keep (cookieOf s g nonce (four a b c d)) = .tuple #[zero2, zero2, .int .i64 17] := by
  unfold openRes
  rw [cookie_gen _ _ _ _ h32, if_pos hg]
end
end Go.Proofs.Ytdgjbaeflbggpaa
