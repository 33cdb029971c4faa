/- Plain laws of fields' bytes: what is read is written, what was written is read. -/
import Derived.Test.YtgihbhplmhpciaaParse
namespace Go.Proofs.Ytgihbhplmhpciaa
open Go.RowKit
set_option linter.unusedVariables false

theorem be_snoc (n b : Nat) (hb : b < 256) : ∀ k, be (n * 256 + b) (k + 1) = be n k ++ [UInt8.ofNat b]
  | 0 => by
    have : UInt8.ofNat (n * 256 + b) = UInt8.ofNat b := by
      apply UInt8.toNat.inj
      simp
    simp [be, this]
  | k + 1 => by
    have h1 : (n * 256 + b) / 256 ^ (k + 1) = n / 256 ^ k := by
      rw [Nat.pow_succ, Nat.mul_comm (256 ^ k) 256, ← Nat.div_div_eq_div_mul, show (n * 256 + b) / 256 = n by omega]
    rw [be, h1, be_snoc n b hb k, be]
    rfl

theorem be_ofBe' : ∀ (r : List UInt8), be (ofBe r.reverse) r.length = r.reverse
  | [] => rfl
  | b :: r => by
    rw [List.reverse_cons, ofBe_snoc, List.length_cons, be_snoc _ _ b.toNat_lt, be_ofBe' r]
    simp
theorem be_ofBe (l : List UInt8) : be (ofBe l) l.length = l := by
  have := be_ofBe' l.reverse
  simpa using this

theorem ofBe_be : ∀ (k n : Nat), n < 256 ^ k → ofBe (be n k) = n
  | 0, n, h => by
    simp at h
    subst h
    rfl
  | k + 1, n, h => by
    have h1 : n / 256 < 256 ^ k := by
      rw [Nat.pow_succ] at h
      omega
    rw [show n = n / 256 * 256 + n % 256 by omega, be_snoc _ _ (Nat.mod_lt _ (by omega)) k, ofBe_snoc, ofBe_be k _ h1]
    have : (UInt8.ofNat (n % 256)).toNat = n % 256 := by simp
    omega

theorem parse_fail : ∀ (f : Nat) (acc : List Ext) (b : List UInt8), (parseFrom f acc b).err ≠ 0 → (parseFrom f acc b).l = [] ∧ (parseFrom f acc b).auth = []
  | 0, acc, b, _ => ⟨rfl, rfl⟩
  | f + 1, acc, b, h => by
    unfold parseFrom at h ⊢
    by_cases c0 : b.length = 0
    · rw [if_pos c0] at h; exact absurd rfl h
    rw [if_neg c0] at h ⊢
    by_cases c1 : b.length = 12
    · rw [if_pos c1] at h; exact absurd rfl h
    rw [if_neg c1] at h ⊢
    by_cases c2 : b.length < 16
    · rw [if_pos c2]; exact ⟨rfl, rfl⟩
    rw [if_neg c2] at h ⊢
    by_cases c3 : ofBe (sub b 2 2) < 16 ∨ ofBe (sub b 2 2) % 4 ≠ 0
    · rw [if_pos c3]; exact ⟨rfl, rfl⟩
    rw [if_neg c3] at h ⊢
    by_cases c4 : b.length < ofBe (sub b 2 2)
    · rw [if_pos c4]; exact ⟨rfl, rfl⟩
    rw [if_neg c4] at h ⊢
    by_cases c5 : acc.length = 16 ∨ 256 < ofBe (sub b 2 2) - 4
    · rw [if_pos c5]; exact ⟨rfl, rfl⟩
    rw [if_neg c5] at h ⊢
    exact parse_fail f _ _ h

theorem field_of (b : List UInt8) (h16 : 16 ≤ b.length) (hn : 16 ≤ ofBe (sub b 2 2)) (hs : ofBe (sub b 2 2) ≤ b.length) :
    fieldBytes ⟨ofBe (sub b 0 2), sub b 4 (ofBe (sub b 2 2) - 4)⟩ ++ b.drop (ofBe (sub b 2 2)) = b := by
  have l1 := sub_length b 0 2 (by omega)
  have l2 := sub_length b 2 2 (by omega)
  have e1 := be_ofBe (sub b 0 2)
  have e2 := be_ofBe (sub b 2 2)
  rw [l1] at e1
  rw [l2] at e2
  have l3 := sub_length b 4 (ofBe (sub b 2 2) - 4) (by omega)
  generalize hN : ofBe (sub b 2 2) = N at *
  unfold fieldBytes
  simp only [l3, Int.toNat_natCast]
  rw [e1, show 4 + (N - 4) = N by omega, e2]
  unfold sub
  apply List.ext_getElem?
  intro i
  simp only [List.getElem?_append, List.length_append, List.length_take, List.length_drop, List.getElem?_take, List.getElem?_drop]
  (repeat' split) <;> first | (congr 1; omega) | omega

theorem parse_sound : ∀ (f : Nat) (acc : List Ext) (b : List UInt8), b.length < f → acc.length ≤ 16 → extErr acc = 0 → (parseFrom f acc b).err = 0 →
    ∃ l, (parseFrom f acc b).l = acc ++ l ∧ (acc ++ l).length ≤ 16 ∧ extErr (acc ++ l) = 0 ∧ l.flatMap fieldBytes ++ (parseFrom f acc b).auth = b
  | 0, acc, b, hf, _, _, _ => by omega
  | f + 1, acc, b, hf, ha, he, h => by
    unfold parseFrom at h ⊢
    by_cases c0 : b.length = 0
    · rw [if_pos c0]
      exact ⟨[], by simp, by simpa using ha, by simpa using he, by simpa using (List.eq_nil_of_length_eq_zero c0).symm⟩
    rw [if_neg c0] at h ⊢
    by_cases c1 : b.length = 12
    · rw [if_pos c1]
      exact ⟨[], by simp, by simpa using ha, by simpa using he, by simp⟩
    rw [if_neg c1] at h ⊢
    by_cases c2 : b.length < 16
    · rw [if_pos c2] at h; exact absurd h (by decide)
    rw [if_neg c2] at h ⊢
    by_cases c3 : ofBe (sub b 2 2) < 16 ∨ ofBe (sub b 2 2) % 4 ≠ 0
    · rw [if_pos c3] at h; exact absurd h (by decide)
    rw [if_neg c3] at h ⊢
    by_cases c4 : b.length < ofBe (sub b 2 2)
    · rw [if_pos c4] at h; exact absurd h (by decide)
    rw [if_neg c4] at h ⊢
    by_cases c5 : acc.length = 16 ∨ 256 < ofBe (sub b 2 2) - 4
    · rw [if_pos c5] at h; exact absurd h (by decide)
    rw [if_neg c5] at h ⊢
    have hk : ofBe (sub b 0 2) < 256 ^ 2 := ofBe_le (by rw [sub_length b 0 2 (by omega)]; omega)
    have hd := sub_length b 4 (ofBe (sub b 2 2) - 4) (by omega)
    have hfield := field_of b (by omega) (by omega) (by omega)
    have hck : extErr (acc ++ [⟨ofBe (sub b 0 2), sub b 4 (ofBe (sub b 2 2) - 4)⟩]) = 0 := by
      rw [extErr_snoc, if_pos he]
      simp only [hd, extCheck]
      rw [if_neg (by omega), if_neg (by omega)]
    obtain ⟨l, h1, h2, h3, h4⟩ := parse_sound f (acc ++ [⟨ofBe (sub b 0 2), sub b 4 (ofBe (sub b 2 2) - 4)⟩]) (b.drop (ofBe (sub b 2 2))) (by rw [List.length_drop]; omega) (by rw [List.length_append]; simp; omega) hck h
    refine ⟨⟨ofBe (sub b 0 2), sub b 4 (ofBe (sub b 2 2) - 4)⟩ :: l, by simpa using h1, by simpa using h2, by simpa using h3, ?_⟩
    rw [List.flatMap_cons, List.append_assoc, h4, hfield]

theorem parse_writes (b : List UInt8) (h : (parse b).err = 0) : appendErr (parse b).l = 0 ∧ (parse b).l.flatMap fieldBytes ++ (parse b).auth = b := by
  obtain ⟨l, h1, h2, h3, h4⟩ := parse_sound (b.length + 1) [] b (by omega) (by simp) rfl h
  unfold parse
  rw [h1]
  simp only [List.nil_append] at h2 h3 ⊢
  refine ⟨?_, h4⟩
  unfold appendErr
  rw [if_neg (by omega), h3]

/-- What was written is read back. -/
theorem parse_field (f : Nat) (acc : List Ext) (e : Ext) (r : List UInt8) (ha : acc.length < 16) (he : extCheck e.kind e.data.length = 0) :
    parseFrom (f + 1) acc (fieldBytes e ++ r) = parseFrom f (acc ++ [e]) r := by
  obtain ⟨k0, k1, m0, m1, m4⟩ := check_zero he
  obtain ⟨kind, data⟩ := e
  obtain ⟨K, rfl⟩ := Int.eq_ofNat_of_zero_le k0
  have lk : (be K 2).length = 2 := be_length _ _
  have ln : (be (4 + data.length) 2).length = 2 := be_length _ _
  simp only [fieldBytes, Int.toNat_natCast] at *
  have s0 : sub (be K 2 ++ be (4 + data.length) 2 ++ data ++ r) 0 2 = be K 2 := by
    simp only [sub, List.drop_zero, List.append_assoc]
    rw [List.take_append_of_le_length (by omega), List.take_of_length_le (by omega)]
  have s2 : sub (be K 2 ++ be (4 + data.length) 2 ++ data ++ r) 2 2 = be (4 + data.length) 2 := by
    simp only [sub, List.append_assoc]
    rw [List.drop_append_of_le_length (by omega), List.drop_of_length_le (by omega), List.nil_append, List.take_append_of_le_length (by omega), List.take_of_length_le (by omega)]
  have h4 : (be K 2 ++ be (4 + data.length) 2).length = 4 := by rw [List.length_append, lk, ln]
  have s4 : sub (be K 2 ++ be (4 + data.length) 2 ++ data ++ r) 4 (4 + data.length - 4) = data := by
    simp only [sub]
    rw [List.append_assoc, List.drop_append_of_le_length (by omega), List.drop_of_length_le (by omega), List.nil_append, List.take_append_of_le_length (by omega), List.take_of_length_le (by omega)]
  have o0 := ofBe_be 2 K (by omega)
  have o2 := ofBe_be 2 (4 + data.length) (by omega)
  have hlen : (be K 2 ++ be (4 + data.length) 2 ++ data ++ r).length = 4 + data.length + r.length := by
    rw [List.length_append, List.length_append, h4]
  have hdrop : (be K 2 ++ be (4 + data.length) 2 ++ data ++ r).drop (4 + data.length) = r := by
    rw [List.drop_append_of_le_length (by rw [List.length_append, h4]; omega), List.drop_of_length_le (by rw [List.length_append, h4]; omega), List.nil_append]
  generalize be K 2 ++ be (4 + data.length) 2 ++ data ++ r = b at *
  rw [parseFrom_next f acc b (by omega) (by rw [s2, o2]; omega) (by rw [s2, o2]; omega) (by rw [s2, o2]; omega), s0, s2, o0, o2, s4, hdrop]

theorem parse_back : ∀ (l : List Ext) (f : Nat) (acc : List Ext) (a : List UInt8), l.length < f → (acc ++ l).length ≤ 16 → extErr l = 0 → (a.length = 0 ∨ a.length = 12) →
    parseFrom f acc (l.flatMap fieldBytes ++ a) = ⟨acc ++ l, a, 0⟩
  | [], f, acc, a, hf, _, _, ha => by
    obtain ⟨f, rfl⟩ : ∃ k, f = k + 1 := ⟨f - 1, by simp at hf; omega⟩
    simp only [List.flatMap_nil, List.nil_append, List.append_nil]
    rcases ha with h0 | h12
    · rw [parseFrom_0 f acc a h0, List.eq_nil_of_length_eq_zero h0]
    · rw [parseFrom_12 f acc a h12]
  | e :: l, f, acc, a, hf, hl, he, ha => by
    obtain ⟨f, rfl⟩ : ∃ k, f = k + 1 := ⟨f - 1, by simp at hf; omega⟩
    have hc : extCheck e.kind e.data.length = 0 := by
      by_cases h : extCheck e.kind e.data.length = 0
      · exact h
      · simp only [extErr, if_neg h] at he
        exact he
    have he' : extErr l = 0 := by simpa only [extErr, if_pos hc] using he
    simp only [List.length_append, List.length_cons] at hl hf
    rw [List.flatMap_cons, List.append_assoc, parse_field f acc e _ (by omega) hc, parse_back l f (acc ++ [e]) a (by omega) (by simp; omega) he' ha]
    simp

theorem flat_ge : ∀ l : List Ext, l.length ≤ (l.flatMap fieldBytes).length
  | [] => by simp
  | e :: l => by
    have := flat_ge l
    have := fieldBytes_length e
    rw [List.flatMap_cons, List.length_append, List.length_cons]
    omega
theorem flat_le : ∀ l : List Ext, extErr l = 0 → (l.flatMap fieldBytes).length ≤ 260 * l.length
  | [], _ => by simp
  | e :: l, h => by
    have hc : extCheck e.kind e.data.length = 0 := ok_of (l := e :: l) h (k := 0) rfl
    have he' : extErr l = 0 := by simpa only [extErr, if_pos hc] using h
    have h1 := flat_le l he'
    have h2 := fieldBytes_length e
    have h3 := check_zero hc
    rw [List.flatMap_cons, List.length_append, List.length_cons]
    omega
theorem append_zero {l : List Ext} (h : appendErr l = 0) : l.length ≤ 16 ∧ extErr l = 0 := by
  unfold appendErr at h
  split at h
  · omega
  · exact ⟨by omega, h⟩
theorem parse_both (l : List Ext) (a : List UInt8) (h : appendErr l = 0) (ha : a.length = 0 ∨ a.length = 12) : parse (l.flatMap fieldBytes ++ a) = ⟨l, a, 0⟩ := by
  obtain ⟨h1, h2⟩ := append_zero h
  unfold parse
  have := flat_ge l
  rw [parse_back l _ [] a (by rw [List.length_append]; omega) (by simpa using h1) h2 ha]
  rfl
theorem auth_split (k t : Nat) (hk : k < 4294967296) (ht : t < 18446744073709551616) : ofBe (sub (be k 4 ++ be t 8) 0 4) = k ∧ ofBe (sub (be k 4 ++ be t 8) 4 8) = t := by
  have l4 : (be k 4).length = 4 := be_length _ _
  have l8 : (be t 8).length = 8 := be_length _ _
  have s0 : sub (be k 4 ++ be t 8) 0 4 = be k 4 := by
    simp only [sub, List.drop_zero]
    rw [List.take_append_of_le_length (by omega), List.take_of_length_le (by omega)]
  have s4 : sub (be k 4 ++ be t 8) 4 8 = be t 8 := by
    simp only [sub]
    rw [List.drop_append_of_le_length (by omega), List.drop_of_length_le (by omega), List.nil_append, List.take_of_length_le (by omega)]
  rw [s0, s4]
  exact ⟨ofBe_be 4 k (by omega), ofBe_be 8 t (by omega)⟩
end Go.Proofs.Ytgihbhplmhpciaa
