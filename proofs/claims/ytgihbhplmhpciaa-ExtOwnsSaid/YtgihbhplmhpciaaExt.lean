/- ext.Check and ext.Append compute the specified error, or the specified bytes. -/
import Derived.Test.YtgihbhplmhpciaaExtW
namespace Go.Proofs.Ytgihbhplmhpciaa
open Go.RowKit
set_option linter.unusedVariables false

/-- The error of a field. -/
def extCheck (k : Int) (m : Nat) : Int := if k < 0 ∨ 65535 < k then 3 else if m < 12 ∨ 256 < m ∨ m % 4 ≠ 0 then 7 else 0

theorem ret_int {k : IntKind} {a b : Int} (h : a = b) : Ending.returned (.int k a) = .returned (.int k b) := by rw [h]

theorem check_any (k : Int) (A : Option Addr) (m c : Nat) (w : World) (hm : m ≤ 9223372036854775807) :
    Calls Try.prog 11 #[.agg #[.int .i64 k, .slice A m c]] w fun e w' => e = .returned (.int .i64 (extCheck k m)) ∧ Below w.heap.size w w' := by
  go_enter Try.func11, Try.ntmps11
  go_wp2
  all_goals
    go_ret
    refine ⟨ret_int ?_, (Below.refl _ _).alloc (Nat.le_refl _) _⟩
    try simp only [bne_iff_ne, bne_eq_false_iff_eq] at *
    unfold extCheck
    (repeat' split) <;> omega

/-- A field's bytes. -/
def fieldBytes (e : Ext) : List UInt8 := be e.kind.toNat 2 ++ be (4 + e.data.length) 2 ++ e.data
/-- The first error of some fields. -/
def extErr : List Ext → Int
  | [] => 0
  | e :: r => if extCheck e.kind e.data.length = 0 then extErr r else extCheck e.kind e.data.length
/-- The error of Append. -/
def appendErr (l : List Ext) : Int := if 16 < l.length then 6 else extErr l

theorem extErr_snoc : ∀ (l : List Ext) (e : Ext), extErr (l ++ [e]) = if extErr l = 0 then extCheck e.kind e.data.length else extErr l
  | [], e => by
    simp only [extErr, List.nil_append]
    split <;> simp_all
  | a :: r, e => by
    simp only [extErr, List.cons_append, extErr_snoc r e]
    by_cases h : extCheck a.kind a.data.length = 0 <;> simp [h]
theorem extErr_pre : ∀ (l r : List Ext), extErr l ≠ 0 → extErr (l ++ r) = extErr l
  | [], r, h => by simp [extErr] at h
  | a :: l, r, h => by
    simp only [extErr, List.cons_append] at h ⊢
    by_cases h1 : extCheck a.kind a.data.length = 0
    · simp only [h1, if_true] at h ⊢
      exact extErr_pre l r h
    · simp [h1]
theorem take_snoc {α : Type} {l : List α} {k : Nat} {e : α} (h : l[k]? = some e) : l.take (k + 1) = l.take k ++ [e] := by
  rw [List.take_add_one, h]
  rfl
theorem ok_of {l : List Ext} (h : extErr l = 0) {k : Nat} {e : Ext} (he : l[k]? = some e) : extCheck e.kind e.data.length = 0 := by
  by_cases hp : extErr (l.take k) = 0
  · by_cases hc : extCheck e.kind e.data.length = 0
    · exact hc
    · have h1 : extErr (l.take (k + 1)) ≠ 0 := by rw [take_snoc he, extErr_snoc, if_pos hp]; exact hc
      have h2 := extErr_pre _ (l.drop (k + 1)) h1
      rw [List.take_append_drop, h] at h2
      exact absurd h2.symm h1
  · have h2 := extErr_pre _ (l.drop k) hp
    rw [List.take_append_drop, h] at h2
    exact absurd h2.symm hp
theorem check_zero {k : Int} {m : Nat} (h : extCheck k m = 0) : 0 ≤ k ∧ k ≤ 65535 ∧ 12 ≤ m ∧ m ≤ 256 ∧ m % 4 = 0 := by
  unfold extCheck at h
  split at h
  · omega
  · split at h <;> omega

theorem fieldBytes_length (e : Ext) : (fieldBytes e).length = 4 + e.data.length := by simp [fieldBytes, be_length]; omega

set_option maxHeartbeats 1000000 in
theorem append_ok (A : Option Addr) (m c : Nat) (bs : List UInt8) (D : Option Addr) (n d : Nat) (l : List Ext) (w : World) (hb : RB w A m c bs) (hl : RE w D n d l) (hm : m ≤ 70000000000000) (hok : appendErr l = 0) :
    Calls Try.prog 13 #[.slice A m c, .slice D n d] w fun e w' => ∃ A' n' c', e = .returned (.tuple #[.slice A' n' c', .int .i64 0]) ∧
      OwnB w' w.heap.size A' n' c' (bs ++ l.flatMap fieldBytes) ∧ Below w.heap.size w w' := by
  have h16 : n ≤ 16 ∧ extErr l = 0 := by
    unfold appendErr at hok
    have := hl.len
    split at hok <;> first | omega | exact ⟨by omega, hok⟩
  obtain ⟨hn, hx⟩ := h16
  have Hx := hide hx
  clear hok hx
  go_enter Try.func13, Try.ntmps13
  go_wp2
  go_loopw [17] (fun i wr => ∃ k : Nat, k ≤ n ∧ i = .int .i64 k ∧ Below w.heap.size w wr) (fun i _ => n - (intOf i).toNat)
  case atStart => exact ⟨0, Nat.zero_le _, rfl, Below.refl _ _⟩
  case round =>
    obtain ⟨k, hk, rfl, hB⟩ := hrel
    by_cases hlt : k < n
    · obtain ⟨x, hxk⟩ := get_some (l := l) (k := k) (by have := hl.len; omega)
      obtain ⟨b, o, rfl, hblt, hkd, hc0, A', m', c', hc1, hrx⟩ := (hl.below hB).at_ hxk
      have hck := ok_of Hx.out hxk
      rw [hrx.len] at hck
      have hck' : (extCheck x.kind m' != 0) = false := by rw [hck]; rfl
      have Hxk := hide hxk
      clear hxk hck
      go_wp2_with (go_at_call 11; refine (check_any _ _ _ _ _ (by have := hrx.cap; have := hrx.max; omega)).mono ?_; rintro e w1 ⟨rfl, hb1⟩)
      refine ⟨⟨k + 1, by omega, by go_num, ?_⟩, by simp [intOf]; omega⟩
      exact below_step (hB.alloc hB.size _) hb1 (by simp; have := hB.size; omega)
    · obtain rfl : n = k := by omega
      go_wp2_with (refine append_bytes rfl (.tmp 27) (.tmp 28) rfl _ 0 0 [] A m c bs rfl rfl w.heap.size w (OwnB.empty wr w.heap.size hB.size) ((hb.below hB).alloc _) (by omega) (hB.alloc hB.size _) (by simp; have := hB.size; omega) ?_; intro A1 n1 c1 w1 hown1 hn1 hB1 _ _)
      go_loopw [9, 32] (fun v i wr => ∃ k : Nat, k ≤ n ∧ i = .int .i64 k ∧ (∃ A' n' c', v = .slice A' n' c' ∧ n' ≤ m + 260 * k ∧ OwnB wr w.heap.size A' n' c' (bs ++ (l.take k).flatMap fieldBytes)) ∧ Below w.heap.size w wr) (fun _ i _ => n - (intOf i).toNat)
      case atStart => exact ⟨0, Nat.zero_le _, rfl, ⟨_, _, _, rfl, by have := hn1.out; omega, OwnB.cast hown1 (by simp)⟩, hB1⟩
      case round =>
        clear hB hB1 hown1
        obtain ⟨k, hk, rfl, ⟨A1, n1, c1, rfl, hn1, hown⟩, hB⟩ := hrel
        by_cases hlt : k < n
        · obtain ⟨x, hxk⟩ := get_some (l := l) (k := k) (by have := hl.len; omega)
          obtain ⟨b, o, rfl, hblt, hkd, hc0, A', m', c', hc1, hrx⟩ := (hl.below hB).at_ hxk
          have hck := check_zero (ok_of Hx.out hxk)
          rw [hrx.len] at hck
          obtain ⟨hk0, hk1, hm0, hm1, hm4⟩ := hck
          have Hxk := hide hxk
          clear hxk
          go_wp2_with fail
          refine (append_any A1 n1 c1 _ _ _ _ (hown.alloc _).rb (by omega) (by omega) hk0 (by simpa using (by omega : x.kind < 65536)) (by omega)).mono ?_
          rintro e w2 ⟨A2, n2, c2, rfl, hown2, hB2⟩
          have hX2 := (Blk.new wr 27 [.int .i64 x.kind, .slice A' m' c']).below' hB2
          have hx2 : w2.cell? ⟨wr.heap.size, 1, none⟩ = some (.slice A' m' c') := hX2.cell 1
          have hz2 := hB2.size
          simp only [World.size_alloc] at hz2
          have hn2 : n2 = n1 + 2 := by rw [← hown2.len, List.length_append, be_length, hown.len]; rfl
          have hn2' : n2 ≤ m + 260 * k + 2 := by omega
          have Hn2 := hide hn2
          clear hn2
          go_wp2_with fail
          refine (append_any A2 n2 c2 _ _ _ _ hown2.rb (by omega) (by omega) (by omega) (by simpa using (by omega : (4 : Int) + m' < 65536)) (by omega)).mono ?_
          rintro e w3 ⟨A3, n3, c3, rfl, hown3, hB3⟩
          have hX3 := hX2.below' hB3
          have hx3 : w3.cell? ⟨wr.heap.size, 1, none⟩ = some (.slice A' m' c') := hX3.cell 1
          have hz3 := hB3.size
          have hn3 : n3 = n2 + 2 := by rw [← hown3.len, List.length_append, be_length, hown2.len]; rfl
          have hn3' : n3 ≤ m + 260 * k + 4 := by omega
          have Hn3 := hide hn3
          clear hn3
          have hB23 : Below w.heap.size w w3 := below_step (below_step (hB.alloc hB.size _) hB2 (by simp; have := hB.size; omega)) hB3 (by have := hB.size; omega)
          have hrx3 := ((hrx.alloc _).below hB2).below hB3
          go_wp2_with (refine append_bytes rfl (.tmp 54) (.tmp 56) rfl _ n3 c3 _ A' m' c' x.data rfl rfl w.heap.size w (hown3.mono (by have := hB.size; omega)) hrx3 (by omega) hB23 hB23.size ?_; intro A4 n4 c4 w4 hown4 hn4 hB4 _ _)
          refine ⟨⟨k + 1, by omega, by go_num, ⟨_, _, _, rfl, by have := hn4.out; omega, hown4.cast ?_⟩, hB4⟩, by simp [intOf]; omega⟩
          have h2 : Int.toNat 2 = 2 := rfl
          have h4 : ((4 : Int) + (m' : Int)).toNat = 4 + m' := by omega
          rw [take_snoc Hxk.out, h2, h4]
          simp [fieldBytes, hrx.len]
        · obtain rfl : n = k := by omega
          go_wp2
          go_ret2
          exact ⟨_, _, _, rfl, hown.cast (by rw [List.take_of_length_le (by rw [hl.len]; omega)]), hB⟩

set_option maxHeartbeats 400000 in
theorem append_err (A : Option Addr) (m c : Nat) (D : Option Addr) (n d : Nat) (l : List Ext) (w : World) (hl : RE w D n d l) (hno : appendErr l ≠ 0) :
    Calls Try.prog 13 #[.slice A m c, .slice D n d] w fun e w' => e = .returned (.tuple #[.slice none 0 0, .int .i64 (appendErr l)]) ∧ Below w.heap.size w w' := by
  have Hlen := hide hl.len
  have hnn := hl.cap
  have hnm := hl.max
  by_cases h16 : 16 < n
  · have ha : appendErr l = 6 := by unfold appendErr; rw [if_pos (by rw [Hlen.out]; exact h16)]
    have Ha := hide ha
    clear ha hno
    go_enter Try.func13, Try.ntmps13
    go_wp2
    go_ret2
    rw [Ha.out]
    exact ⟨rfl, Below.refl _ _⟩
  · have ha : appendErr l = extErr l := by unfold appendErr; rw [if_neg (by rw [Hlen.out]; exact h16)]
    rw [ha] at hno ⊢
    have Hno := hide hno
    clear hno ha
    go_enter Try.func13, Try.ntmps13
    go_wp2
    go_loopw [17] (fun i wr => ∃ k : Nat, k ≤ n ∧ i = .int .i64 k ∧ Hid (extErr (l.take k) = 0) ∧ Below w.heap.size w wr) (fun i _ => n - (intOf i).toNat)
    case atStart => exact ⟨0, Nat.zero_le _, rfl, rfl, Below.refl _ _⟩
    case round =>
      obtain ⟨k, hk, rfl, Hp, hB⟩ := hrel
      by_cases hlt : k < n
      · obtain ⟨x, hxk⟩ := get_some (l := l) (k := k) (by have := Hlen.out; omega)
        obtain ⟨b, o, rfl, hblt, hkd, hc0, A', m', c', hc1, hrx⟩ := (hl.below hB).at_ hxk
        have hs := extErr_snoc (l.take k) x
        rw [← take_snoc hxk, if_pos Hp.out, hrx.len] at hs
        have Hs := hide hs
        clear hs hxk
        by_cases hck : extCheck x.kind m' = 0
        · have hck' : (extCheck x.kind m' != 0) = false := by rw [hck]; rfl
          have Hck := hide hck
          clear hck
          go_wp2_with (go_at_call 11; refine (check_any _ _ _ _ _ (by have := hrx.cap; have := hrx.max; omega)).mono ?_; rintro e w1 ⟨rfl, hb1⟩)
          refine ⟨⟨k + 1, by omega, by go_num, ?_, ?_⟩, by simp [intOf]; omega⟩
          · exact Hs.out.trans Hck.out
          · exact below_step (hB.alloc hB.size _) hb1 (by simp; have := hB.size; omega)
        · have hck' : (extCheck x.kind m' != 0) = true := by simpa using hck
          have Hck := hide hck
          clear hck
          go_wp2_with (go_at_call 11; refine (check_any _ _ _ _ _ (by have := hrx.cap; have := hrx.max; omega)).mono ?_; rintro e w1 ⟨rfl, hb1⟩)
          go_ret2
          have h1 : extErr (l.take (k + 1)) ≠ 0 := by rw [Hs.out]; exact Hck.out
          have h2 := extErr_pre _ (l.drop (k + 1)) h1
          rw [List.take_append_drop] at h2
          rw [h2, Hs.out]
          exact ⟨rfl, below_step (hB.alloc hB.size _) hb1 (by simp; have := hB.size; omega)⟩
      · exfalso
        obtain rfl : n = k := by omega
        have := Hp.out
        rw [List.take_of_length_le (by rw [Hlen.out]; omega)] at this
        exact Hno.out this
end Go.Proofs.Ytgihbhplmhpciaa
