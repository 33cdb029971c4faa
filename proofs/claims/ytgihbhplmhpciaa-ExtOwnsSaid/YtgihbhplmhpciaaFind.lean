/- ext.Find; bytes.Clone whole; writing into bytes.
  SEATS: ext guard -/
import Derived.Test.YtgihbhplmhpciaaExtW
import Derived.Test.YtgihbhplmhpciaaClone
namespace Go.Proofs.Ytgihbhplmhpciaa
open Go.RowKit
set_option linter.unusedVariables false

/-- The data of the first field of a kind. -/
def findData (l : List Ext) (k : Int) : List UInt8 := match l.find? fun e => e.kind == k with
  | some e => e.data
  | none => []

theorem clone_all (A : Option Addr) (m c : Nat) (bs : List UInt8) (w : World) (h : RB w A m c bs) (hm : m ≤ 1000000) :
    Calls Try.prog 25 #[.slice A m c] w fun e w' => ∃ A' n' c', e = .returned (.slice A' n' c') ∧ OwnB w' w.heap.size A' n' c' bs ∧ Below w.heap.size w w' := by
  cases A with
  | some ad => exact clone_any ad m c bs w h hm
  | none =>
    have hm0 : m = 0 := by
      rcases Nat.eq_zero_or_pos m with h0 | h0
      · exact h0
      · obtain ⟨b, o, hA, _⟩ := h.cells h0
        cases hA
    subst hm0
    obtain rfl : bs = [] := List.eq_nil_of_length_eq_zero h.len
    have hq : ∀ w, (Go.binOp .eql 22 (.slice none 0 c) (.slice none 0 0)).run Try.prog w = .ok (.bool true) w := fun _ => by rfl
    go_enter Try.func25, Try.ntmps25
    go_wp2
    go_ret
    exact ⟨none, 0, 0, rfl, World.ownsRow_nil _ _ _ _, Below.refl _ _⟩

theorem find_drop {l : List Ext} {k : Nat} {x : Ext} (h : l[k]? = some x) : l.drop k = x :: l.drop (k + 1) := by
  have hk := (List.getElem?_eq_some_iff.1 h).1
  rw [List.drop_eq_getElem_cons hk]
  congr 1
  exact (List.getElem?_eq_some_iff.1 h).2

set_option maxHeartbeats 1000000 in
theorem find_any (D : Option Addr) (n d : Nat) (l : List Ext) (kind : Int) (w : World) (hl : RE w D n d l) (hd : ∀ e ∈ l, e.data.length ≤ 1000000) :
    Calls Try.prog 26 #[.slice D n d, .int .i64 kind] w fun e w' => ∃ A m c b, e = .returned (.tuple #[.slice A m c, .bool b]) ∧ OwnB w' w.heap.size A m c (findData l kind) ∧ Below w.heap.size w w' := by
  have Hlen := hide hl.len
  have hnn := hl.cap
  have hnm := hl.max
  have Hd := hide hd
  clear hd
  go_enter Try.func26, Try.ntmps26
  go_wp2
  go_loopw [10] (fun i wr => ∃ k : Nat, k ≤ n ∧ i = .int .i64 k ∧ Hid (findData (l.drop k) kind = findData l kind) ∧ Below w.heap.size w wr) (fun i _ => n - (intOf i).toNat)
  case atStart => exact ⟨0, Nat.zero_le _, rfl, rfl, Below.refl _ _⟩
  case round =>
    obtain ⟨k, hk, rfl, Hp, hB⟩ := hrel
    by_cases hlt : k < n
    · obtain ⟨x, hxk⟩ := get_some (l := l) (k := k) (by have := Hlen.out; omega)
      obtain ⟨b, o, rfl, hblt, hkd, hc0, A', m', c', hc1, hrx⟩ := (hl.below hB).at_ hxk
      have Hx := hide (find_drop hxk)
      have hxm : m' ≤ 1000000 := by
        have h1 := Hd.out x (List.mem_of_getElem? hxk)
        have h2 := hrx.len
        omega
      clear hxk
      by_cases hkk : x.kind = kind
      · have hkb : (x.kind == kind) = true := by rw [hkk]; exact beq_self_eq_true _
        have hrx1 := (hrx.alloc (.cells #[.int .i64 x.kind, .slice A' m' c'] 27)).alloc (.cells #[] 5)
        have hB1 := hB.alloc hB.size (.cells #[.int .i64 x.kind, .slice A' m' c'] 27)
        have hown0 := OwnB.empty (wr.alloc (.cells #[.int .i64 x.kind, .slice A' m' c'] 27)) w.heap.size hB1.size
        have hB2 := hB1.alloc hB1.size (.cells #[] 5)
        have Hf := hide (show findData l kind = x.data by
          rw [← Hp.out, Hx.out]
          unfold findData
          rw [List.find?_cons, hkb])
        have hs2 := hB2.size
        simp only [World.size_alloc] at hown0
        clear hkk hB hrx
        go_wp2_with (refine append_bytes rfl (.tmp 18) (.tmp 20) rfl _ 0 0 [] A' m' c' _ rfl rfl w.heap.size w hown0 hrx1 (by omega) hB2 hs2 ?_; intro A2 n2 c2 w2 hown2 hn2 hB3 hg2 _)
        go_ret2
        rw [Hf.out]
        exact ⟨A2, n2, c2, true, rfl, hown2.cast (by simp), hB3⟩
      · have hkb : (x.kind == kind) = false := by simpa using hkk
        have Hf := hide (show findData (l.drop (k + 1)) kind = findData l kind by
          rw [← Hp.out, Hx.out]
          unfold findData
          rw [List.find?_cons, hkb])
        clear hkk
        go_wp2
        exact ⟨⟨k + 1, by omega, by go_num, Hf, hB.alloc hB.size _⟩, by simp [intOf]; omega⟩
    · obtain rfl : n = k := by omega
      have Hf := hide (show findData l kind = [] by
        rw [← Hp.out, List.drop_of_length_le (by rw [Hlen.out]; omega)]
        rfl)
      go_wp2
      go_ret2
      rw [Hf.out]
      exact ⟨none, 0, 0, false, rfl, World.ownsRow_nil _ _ _ _, hB⟩

/-- Bytes of the call's own lie in a block that is known whole. -/
theorem ownB_blk {w : World} {base n c : Nat} {A : Option Addr} {bs : List UInt8} (h : OwnB w base A n c bs) (hn : 0 < n) :
    ∃ g cs, A = some ⟨g, 0, none⟩ ∧ base ≤ g ∧ Blk w g 5 cs ∧ cs.take n = BV bs := by
  rcases h.2 with ⟨he, h0⟩ | ⟨g, cap, cur, he, hb, hh, hc, hm, hs, ht⟩
  · omega
  · injection he with e1 e2 e3
    subst e1 e3
    refine ⟨g, cur.toList, rfl, hb, ?_, by simpa using ht⟩
    unfold Blk
    simpa using hh

/-- A byte that is written somewhere leaves bytes bytes. -/
theorem own_write {w : World} {base n c : Nat} {A : Option Addr} {bs : List UInt8} (h : OwnB w base A n c bs) (g i : Nat) (v : UInt8) : ∃ bs', OwnB (w.setCell ⟨g, i, none⟩ (.int .u8 (v.toNat : Int))) base A n c bs' := by
  rcases h.2 with ⟨he, h0⟩ | ⟨g', cap, cur, he, hb, hh, hc, hm, hs, ht⟩
  · exact ⟨bs, h.1, .inl ⟨he, h0⟩⟩
  · by_cases hg : g' = g
    · subst hg
      refine ⟨bs.set i v, ?_, .inr ⟨g', cap, cur.setIfInBounds i (.int .u8 (v.toNat : Int)), he, hb, ?_, hc, hm, by simpa using hs, ?_⟩⟩
      · have := h.1
        simpa [BV] using this
      · simp [World.setCell, Array.getElem?_modify, hh]
      · rw [Array.toList_setIfInBounds, List.take_set, ht]
        simp [BV, List.map_set]
    · refine ⟨bs, h.1, .inr ⟨g', cap, cur, he, hb, ?_, hc, hm, hs, ht⟩⟩
      exact (Below.heap_setCell w ⟨g, i, none⟩ _ g' hg).trans hh

theorem own_agree {w W : World} {base e size n : Nat} {v : Value} {xs : List Value} (h : w.ownsRow base e size v n xs) (hA : ∀ k, base ≤ k → k < w.heap.size → W.heap[k]? = w.heap[k]?) : W.ownsRow base e size v n xs := by
  refine ⟨h.1, ?_⟩
  rcases h.2 with h0 | ⟨g, cap, cur, he, hb, hh, r⟩
  · exact .inl h0
  · exact .inr ⟨g, cap, cur, he, hb, (hA g hb (Array.getElem?_eq_some_iff.1 hh).1).trans hh, r⟩
theorem ownE_agree {w W : World} {base : Nat} {D : Option Addr} {n d : Nat} {l : List Ext} (h : OwnE w base D n d l) (hA : ∀ k, base ≤ k → k < w.heap.size → W.heap[k]? = w.heap[k]?) : OwnE W base D n d l := by
  obtain ⟨xs, h1, h2⟩ := h
  exact ⟨xs, own_agree h1 hA, h2.imp fun _ _ _ _ h => own_agree h hA⟩
end Go.Proofs.Ytgihbhplmhpciaa
