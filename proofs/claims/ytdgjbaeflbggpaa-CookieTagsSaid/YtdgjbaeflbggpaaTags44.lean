/- The plain law of changed cookies, and writing into bytes of the call's own.
  SEATS: cookie guard -/
import Derived.Test.YtdgjbaeflbggpaaPlain44
namespace Go.Proofs.Ytdgjbaeflbggpaa
open Go.RowKit
set_option linter.unusedVariables false

/-- Bytes of the call's own lie in a block that is known whole. -/
theorem OwnB.blk {w : World} {base n c : Nat} {A : Option Addr} {bs : List UInt8} (h : OwnB w base A n c bs) (hn : 0 < n) :
    ∃ g cs, A = some ⟨g, 0, none⟩ ∧ base ≤ g ∧ Blk w g 5 cs ∧ cs.take n = BV bs ∧ n ≤ c ∧ c ≤ 9223372036854775807 ∧ cs.length = c := by
  rcases h.2 with ⟨he, h0⟩ | ⟨g, cap, cur, he, hb, hh, hc, hm, hs, ht⟩
  · omega
  · injection he with e1 e2 e3
    subst e1 e3
    refine ⟨g, cur.toList, rfl, hb, ?_, by simpa using ht, hc, by simpa [maxLen] using hm, by simp [hs]⟩
    unfold Blk
    simpa using hh

theorem Blk.rbt {w : World} {g n c : Nat} {cs : List Value} {bs : List UInt8} (h : Blk w g 5 cs) (ht : cs.take n = BV bs) (hl : bs.length = n) (hc : n ≤ c) (hm : c ≤ 9223372036854775807) : RB w (some ⟨g, 0, none⟩) n c bs :=
  ⟨hl, hc, hm, fun _ => ⟨g, 0, rfl, h.lt, fun j u hu => by
    rw [Nat.zero_add, h.cell, ← hu, ← ht, List.getElem?_take]
    have := (List.getElem?_eq_some_iff.1 hu).1
    rw [BV_length] at this
    rw [if_pos (by omega)]⟩⟩

theorem take_get {cs : List Value} {bs : List UInt8} {n i : Nat} (ht : cs.take n = BV bs) (hi : i < bs.length) : cs[i]? = some (.int .u8 ((nth bs i).toNat : Int)) := by
  have h : (BV bs)[i]? = some (.int .u8 ((nth bs i).toNat : Int)) := by rw [BV_get, nth_get hi]; rfl
  rw [← ht, List.getElem?_take] at h
  split at h
  · exact h
  · cases h

theorem take_set {cs : List Value} {bs : List UInt8} {n i : Nat} {v : UInt8} (ht : cs.take n = BV bs) : (cs.set i (.int .u8 (v.toNat : Int))).take n = BV (bs.set i v) := by
  rw [List.take_set, ht]
  simp [BV, List.map_set]

/-- Some bytes with k of those from 44 on changed. -/
def changed (bs : List UInt8) (C : Nat) (k : Nat) : List UInt8 := (List.range bs.length).map fun j => if 44 ≤ j ∧ j < 44 + k then nth bs j ^^^ UInt8.ofNat (C / 2 ^ (8 * (j - 44))) else nth bs j

theorem changed_length (bs : List UInt8) (C k : Nat) : (changed bs C k).length = bs.length := by simp [changed]
theorem changed_get (bs : List UInt8) (C k j : Nat) (hj : j < bs.length) : (changed bs C k)[j]? = some (if 44 ≤ j ∧ j < 44 + k then nth bs j ^^^ UInt8.ofNat (C / 2 ^ (8 * (j - 44))) else nth bs j) := by
  simp [changed, List.getElem?_range hj]
theorem changed_zero (bs : List UInt8) (C : Nat) : changed bs C 0 = bs := by
  refine List.ext_getElem? fun j => ?_
  by_cases hj : j < bs.length
  · rw [changed_get _ _ _ _ hj, if_neg (by omega), nth_get hj]
  · rw [List.getElem?_eq_none (by rw [changed_length]; omega), List.getElem?_eq_none (by omega)]
theorem changed_nth (bs : List UInt8) (C k : Nat) (hk : 44 + k < bs.length) : nth (changed bs C k) (44 + k) = nth bs (44 + k) := by
  have h := changed_get bs C k (44 + k) hk
  rw [if_neg (by omega), nth_get (by rw [changed_length]; exact hk)] at h
  exact Option.some.inj h
theorem changed_set (bs : List UInt8) (C k : Nat) (hk : 44 + k < bs.length) : (changed bs C k).set (44 + k) (nth bs (44 + k) ^^^ UInt8.ofNat (C / 2 ^ (8 * k))) = changed bs C (k + 1) := by
  refine List.ext_getElem? fun j => ?_
  by_cases hj : j < bs.length
  · rw [changed_get _ _ _ _ hj, List.getElem?_set]
    by_cases he : 44 + k = j
    · subst he
      rw [if_pos rfl, if_pos (by rw [changed_length]; exact hj), if_pos (by omega)]
      simp
    · rw [if_neg he, changed_get _ _ _ _ hj]
      by_cases h1 : 44 ≤ j ∧ j < 44 + k
      · rw [if_pos h1, if_pos (by omega)]
      · rw [if_neg h1, if_neg (by omega)]
  · rw [List.getElem?_eq_none (by rw [List.length_set, changed_length]; omega), List.getElem?_eq_none (by rw [changed_length]; omega)]
theorem changed_take (bs : List UInt8) (C k : Nat) (hl : bs.length = 52) : (changed bs C k).take 44 = bs.take 44 := by
  refine List.ext_getElem? fun j => ?_
  rw [List.getElem?_take, List.getElem?_take]
  split
  · rw [changed_get _ _ _ _ (by omega), if_neg (by omega), nth_get (by omega)]
  · rfl
theorem changed_sub (bs : List UInt8) (C k a n : Nat) (hl : bs.length = 52) (ha : a + n ≤ 44) : sub (changed bs C k) a n = sub bs a n := by
  have h (l : List UInt8) : sub l a n = sub (l.take 44) a n := by
    unfold sub
    rw [List.drop_take, List.take_take]
    congr 1
    omega
  rw [h, h bs, changed_take bs C k hl]

theorem be_ofBe_rev : ∀ r : List UInt8, be (ofBe r.reverse) r.length = r.reverse
  | [] => rfl
  | b :: r => by
    rw [List.reverse_cons, ofBe_snoc, List.length_cons, ck_be_snoc _ _ b.toNat_lt, be_ofBe_rev r]
    simp
theorem be_ofBe' (l : List UInt8) : be (ofBe l) l.length = l := by
  have := be_ofBe_rev l.reverse
  simpa using this
theorem ofBe_inj {a b : List UInt8} (hl : a.length = b.length) (h : ofBe a = ofBe b) : a = b := by
  rw [← be_ofBe' a, ← be_ofBe' b, h, hl]

theorem xor_same {x y : UInt8} (h : x ^^^ y = x) : y = 0 := by
  have h2 : x ^^^ (x ^^^ y) = x ^^^ x := by rw [h]
  rw [← UInt8.xor_assoc, UInt8.xor_self, UInt8.zero_xor] at h2
  exact h2

theorem bytes_zero (C : Nat) (hC : C ≤ 18446744073709551615) (a0 : C % 256 = 0) (a1 : C / 256 % 256 = 0) (a2 : C / 65536 % 256 = 0) (a3 : C / 16777216 % 256 = 0) (a4 : C / 4294967296 % 256 = 0)
    (a5 : C / 1099511627776 % 256 = 0) (a6 : C / 281474976710656 % 256 = 0) (a7 : C / 72057594037927936 % 256 = 0) : C = 0 := by omega

theorem changed_sub44 (bs : List UInt8) (C i : Nat) (hl : bs.length = 52) (hi : i < 8) (h : sub (changed bs C 8) 44 8 = sub bs 44 8) : C / 2 ^ (8 * i) % 256 = 0 := by
  have h4 : (sub (changed bs C 8) 44 8)[i]? = (sub bs 44 8)[i]? := by rw [h]
  unfold sub at h4
  rw [List.getElem?_take, if_pos hi, List.getElem?_take, if_pos hi, List.getElem?_drop, List.getElem?_drop, changed_get _ _ _ _ (by omega), if_pos (by omega), nth_get (by omega)] at h4
  have h5 := xor_same (Option.some.inj h4)
  rw [show 44 + i - 44 = i by omega] at h5
  have h6 := congrArg UInt8.toNat h5
  rw [UInt8.toNat_ofNat'] at h6
  exact h6

theorem changed_tag (bs : List UInt8) (C : Nat) (hl : bs.length = 52) (h0 : C ≠ 0) (hC : C ≤ 18446744073709551615) : ckTag (changed bs C 8) ≠ ckTag bs := by
  intro h
  have h1 : ofBe (sub (changed bs C 8) 44 8) = ofBe (sub bs 44 8) := by
    unfold ckTag at h
    exact Int.ofNat.inj h
  have h2 : sub (changed bs C 8) 44 8 = sub bs 44 8 := ofBe_inj ((sub_length _ _ _ (by rw [changed_length]; omega)).trans (sub_length _ _ _ (by omega)).symm) h1
  have a0 := changed_sub44 bs C 0 hl (by omega) h2
  have a1 := changed_sub44 bs C 1 hl (by omega) h2
  have a2 := changed_sub44 bs C 2 hl (by omega) h2
  have a3 := changed_sub44 bs C 3 hl (by omega) h2
  have a4 := changed_sub44 bs C 4 hl (by omega) h2
  have a5 := changed_sub44 bs C 5 hl (by omega) h2
  have a6 := changed_sub44 bs C 6 hl (by omega) h2
  have a7 := changed_sub44 bs C 7 hl (by omega) h2
  simp only [Nat.reduceMul, Nat.reducePow, Nat.div_one] at a0 a1 a2 a3 a4 a5 a6 a7
  exact h0 (bytes_zero C hC a0 a1 a2 a3 a4 a5 a6 a7)

variable (s : Int) (nonce : Int) (x : Nat → Int)
/-- A cookie of generation 1 with another tag. -/
theorem open_changed (C keep : Nat) (hk : 1 ≤ keep) (h0 : C ≠ 0) (hC : C ≤ 18446744073709551615) :
    openRes s 1 keep (changed (cookieOf s 1 nonce x) C 8) = .tuple #[zero2, zero2, .int .i64 16] := by
  have hl := cookie_len s 1 nonce x
  have hg : ckGen (changed (cookieOf s 1 nonce x) C 8) = 1 := by
    have := cookie_gen s 1 nonce x (by omega)
    unfold ckGen at this ⊢
    rw [changed_sub _ _ _ _ _ hl (by omega), this]
  have ht := changed_tag (cookieOf s 1 nonce x) C hl h0 hC
  rw [cookie_tag] at ht
  unfold openRes
  rw [hg, if_neg (by omega), changed_take _ _ _ hl, cookie_body, if_neg (fun h => ht h.symm)]

theorem cookie_head : ∃ r, cookieOf s 1 nonce x = 0 :: 0 :: 0 :: 1 :: r :=
  ⟨_, by rw [cookieOf, cookieAt]; rfl⟩

/-- A cookie of a generation that has not begun. -/
theorem open_later (keep : Nat) : openRes s 1 keep ((cookieOf s 1 nonce x).set 3 2) = .tuple #[zero2, zero2, .int .i64 17] := by
  obtain ⟨r, hr⟩ := cookie_head s nonce x
  have hg : ckGen ((cookieOf s 1 nonce x).set 3 2) = 2 := by
    rw [hr]
    rfl
  unfold openRes
  rw [hg, if_pos (by omega)]
end Go.Proofs.Ytdgjbaeflbggpaa
