/- ExtAppends: Check and Append of the program return what the reference's return.
  SEATS: ext -/
import Derived.Test.YtgihbhplmhpciaaAwake20
import Derived.Test.YtgihbhplmhpciaaRef20
import Derived.Deep.RegionHeld3
namespace Go.Proofs.Ytgihbhplmhpciaa
open Go.RowKit
set_option linter.unusedVariables false

def fewB (l : List Ext) : Bool := l.all (fun e => decide (e.data.length ≤ 400)) && decide (l.length ≤ 24)

theorem few_any (D : Option Addr) (n d : Nat) (l : List Ext) (w : World) (hl : RE w D n d l) :
    Calls Try.prog 9 #[.slice D n d] w fun e w' => e = .returned (.bool (fewB l)) ∧ Below w.heap.size w w' := by
  have Hlen := hide hl.len
  have hcap := hl.cap
  have hmax := hl.max
  go_enter Try.func9, Try.ntmps9
  go_wp2
  go_loopw [7] (fun i wr => ∃ k : Nat, k ≤ n ∧ i = .int .i64 k ∧ Hid ((l.take k).all (fun e => decide (e.data.length ≤ 400)) = true) ∧ Below w.heap.size w wr) (fun i _ => n - (intOf i).toNat)
  case atStart => exact ⟨0, Nat.zero_le _, rfl, rfl, Below.refl _ _⟩
  case round =>
    obtain ⟨k, hk, rfl, Hp, hB⟩ := hrel
    by_cases hlt : k < n
    · obtain ⟨x, hxk⟩ := get_some (l := l) (k := k) (by have := Hlen.out; omega)
      obtain ⟨b, o, rfl, hblt, hkd, hc0, A', m', c', hc1, hrx⟩ := (hl.below hB).at_ hxk
      have Hs := hide (take_snoc hxk)
      have Hm := hide hrx.len
      have Hmem := hide (List.mem_of_getElem? hxk)
      clear hxk
      by_cases h4 : 400 < m'
      · go_wp2
        go_ret
        refine ⟨?_, hB.alloc hB.size _⟩
        have : fewB l = false := by
          unfold fewB
          rw [Bool.and_eq_false_iff]
          left
          rw [List.all_eq_false]
          exact ⟨x, Hmem.out, by have := Hm.out; simp; omega⟩
        rw [this]
        rfl
      · go_wp2
        refine ⟨⟨k + 1, by omega, by go_num, ?_, hB.alloc hB.size _⟩, by simp [intOf]; omega⟩
        show List.all _ _ = true
        rw [Hs.out, List.all_append, Hp.out]
        have := Hm.out
        simp
        omega
    · obtain rfl : n = k := by omega
      go_wp2
      go_ret
      refine ⟨?_, hB⟩
      have h1 := Hp.out
      rw [List.take_of_length_le (by rw [Hlen.out]; omega)] at h1
      have : fewB l = decide ((n : Int) ≤ 24) := by
        unfold fewB
        rw [h1, Bool.true_and, Hlen.out]
        simp only [decide_eq_decide]
        omega
      rw [this]
      rfl

set_option maxHeartbeats 1000000 in
theorem extAppends_any (A : Option Addr) (m c : Nat) (bs : List UInt8) (D : Option Addr) (n d : Nat) (l : List Ext) (w : World) (hb : RB w A m c bs) (hl : RE w D n d l) :
    Calls Try.prog 3 #[.slice A m c, .slice D n d] w fun e w' => e = .returned (.bool true) ∧ Below w.heap.size w w' := by
  have Hlen := hide hl.len
  have hcap := hl.cap
  have hmax := hl.max
  have hbc := hb.cap
  have hbm := hb.max
  by_cases hf : fewB l = false
  · go_enter Try.func3, Try.ntmps3
    go_wp2_with (first
      | (go_at_call 9; refine (few_any D n d l _ hl).mono ?_; rintro e w1 ⟨rfl, hB1⟩)
      | (go_at_call 10; refine (awake20 _).mono ?_; rintro e w2 ⟨rfl, hB2⟩))
    go_ret
    exact ⟨rfl, below_step hB1 hB2 hB1.size⟩
  have hf : fewB l = true := by simpa using hf
  by_cases hm : 400 < m
  · go_enter Try.func3, Try.ntmps3
    go_wp2_with (first
      | (go_at_call 9; refine (few_any D n d l _ hl).mono ?_; rintro e w1 ⟨rfl, hB1⟩)
      | (go_at_call 10; refine (awake20 _).mono ?_; rintro e w2 ⟨rfl, hB2⟩))
    go_ret
    exact ⟨rfl, below_step hB1 hB2 hB1.size⟩
  go_enter Try.func3, Try.ntmps3
  go_wp2_with (first
      | (go_at_call 9; refine (few_any D n d l _ hl).mono ?_; rintro e w1 ⟨rfl, hB1⟩))
  go_loopw [22] (fun i wr => ∃ k : Nat, k ≤ n ∧ i = .int .i64 k ∧ Below w.heap.size w wr) (fun i _ => n - (intOf i).toNat)
  case atStart => exact ⟨0, Nat.zero_le _, rfl, hB1⟩
  case round =>
    obtain ⟨k, hk, rfl, hB⟩ := hrel
    by_cases hlt : k < n
    · obtain ⟨x, hxk⟩ := get_some (l := l) (k := k) (by have := Hlen.out; omega)
      obtain ⟨b, o, rfl, hblt, hkd, hc0, A', m', c', hc1, hrx⟩ := (hl.below hB).at_ hxk
      have hmc := hrx.cap
      have hmx := hrx.max
      clear hxk
      go_wp2
      go_region_held3 (fun w' => w'.cell? ⟨wr.heap.size, 0, none⟩ = some (.int .i64 x.kind) ∧ w'.cell? ⟨wr.heap.size, 1, none⟩ = some (.slice A' m' c'))
        (first | exact ⟨j0, j1⟩ | exact ⟨k0, k1⟩ | simp [go_sem])
        (first
          | (go_at_call 11; refine (check_any _ _ _ _ _ (by omega)).mono ?_; rintro e w2 ⟨rfl, hB2⟩; have k0 : w2.cell? ⟨wr.heap.size, 0, none⟩ = some (.int .i64 x.kind) := (hB2.cell (p := ⟨wr.heap.size, 0, none⟩) (by simp)).trans (by simp [go_sem]); have k1 : w2.cell? ⟨wr.heap.size, 1, none⟩ = some (.slice A' m' c') := (hB2.cell (p := ⟨wr.heap.size, 1, none⟩) (by simp)).trans (by simp [go_sem]))
          | (go_at_call 12; refine (check20_any _ _ _ _ _ (by omega)).mono ?_; rintro e w3 ⟨rfl, hB3⟩; have hzz := hB2.size; have j0 := (hB3.cell (p := ⟨wr.heap.size, 0, none⟩) (by show wr.heap.size < _; simp at hzz; omega)).trans k0; have j1 := (hB3.cell (p := ⟨wr.heap.size, 1, none⟩) (by show wr.heap.size < _; simp at hzz; omega)).trans k1))
      go_wp2
      refine ⟨⟨k + 1, by omega, by go_num, ?_⟩, by simp [intOf]; omega⟩
      exact below_step (below_step (hB.drew.alloc hB.size _) hB2 (by simp; have := hB.size; omega)) hB3 (by have := hB.size; simp at hzz; omega)
    · obtain rfl : n = k := by omega
      by_cases he : appendErr l = 0
      · have He := hide he
        clear he
        go_wp2_with fail
        refine (append_ok A m c bs D n d l _ (hb.below hB) (hl.below hB) (by omega) He.out).mono ?_
        rintro e w2 ⟨A2, n2, c2, rfl, hown2, hB2⟩
        have hBw2 := below_step hB hB2 hB.size
        go_wp2_with fail
        refine (append20_ok A m c bs D n d l _ (hb.below hBw2) (hl.below hBw2) (by omega) He.out).mono ?_
        rintro e w3 ⟨A3, n3, c3, rfl, hown3, hB3⟩
        have hBw3 := below_step hBw2 hB3 hBw2.size
        go_wp2_with fail
        refine (equal_any _ _ _ _ _ _ _ _ _ (hown2.below hB3).rb hown3.rb).mono ?_
        rintro e w' ⟨rfl, rfl⟩
        rw [beq_self_eq_true]
        go_wp2_with (go_at_call 10; refine (awake20 _).mono ?_; rintro e w4 ⟨rfl, hB4⟩)
        go_ret
        exact ⟨rfl, below_step hBw3 hB4 hBw3.size⟩
      · have He := hide he
        clear he
        generalize hE : appendErr l = E at He
        have HE := hide hE
        clear hE
        go_wp2_with fail
        refine (append_err A m c D n d l _ (hl.below hB) (by rw [HE.out]; exact He.out)).mono ?_
        rintro e w2 ⟨rfl, hB2⟩
        rw [HE.out]
        have hBw2 := below_step hB hB2 hB.size
        go_wp2_with fail
        refine (append20_err A m c D n d l _ (hl.below hBw2) (by rw [HE.out]; exact He.out)).mono ?_
        rintro e w3 ⟨rfl, hB3⟩
        rw [HE.out]
        have hBw3 := below_step hBw2 hB3 hBw2.size
        go_wp2_with fail
        refine (equal_any _ _ _ _ _ _ _ _ _ (RB.nil _) (RB.nil _)).mono ?_
        rintro e w' ⟨rfl, rfl⟩
        rw [beq_self_eq_true]
        go_wp2_with (go_at_call 10; refine (awake20 _).mono ?_; rintro e w4 ⟨rfl, hB4⟩)
        go_ret
        exact ⟨rfl, below_step hBw3 hB4 hBw3.size⟩
end Go.Proofs.Ytgihbhplmhpciaa
