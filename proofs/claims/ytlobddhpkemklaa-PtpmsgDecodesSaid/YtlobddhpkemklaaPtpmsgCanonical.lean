/- PtpmsgCanonical: what Decode accepts is what Encode returns for the message.
  SEATS: ptp -/
import Derived.Test.YtlobddhpkemklaaPtpmsgDiffers
namespace Go.Proofs.Ytlobddhpkemklaa
open Go.RowKit
set_option linter.unusedVariables false

theorem num_lt_any (bs : List UInt8) (p k : Nat) : num bs p k < 256 ^ k := ofBe_le (by simp [sub]; omega)
theorem if_in (c : Bool) (a lo hi : Int) (h : lo ≤ a ∧ a ≤ hi) (h0 : lo ≤ 0 ∧ 0 ≤ hi) : lo ≤ (if c = true then a else 0) ∧ (if c = true then a else 0) ≤ hi := by
  cases c
  · exact h0
  · exact h
theorem if_in' (k : Int) (a lo hi : Int) (h : lo ≤ a ∧ a ≤ hi) (h0 : lo ≤ 0 ∧ 0 ≤ hi) : lo ≤ (if k = 11 then a else 0) ∧ (if k = 11 then a else 0) ≤ hi := by
  split
  · exact h
  · exact h0
theorem sgn_in (bs : List UInt8) (p s : Nat) (hs : s = 1 ∨ s = 2 ∨ s = 8) : -9223372036854775808 ≤ sgn (num bs p s) s ∧ sgn (num bs p s) s ≤ 9223372036854775807 := by
  have h := num_lt_any bs p s
  unfold sgn
  rcases hs with rfl | rfl | rfl <;> simp only [Nat.reduceMul, Nat.reduceSub, Nat.reducePow, Int.reducePow] at * <;> split <;> omega
theorem num_in (bs : List UInt8) (p s : Nat) (hs : s ≤ 7) : -9223372036854775808 ≤ ((num bs p s : Nat) : Int) ∧ ((num bs p s : Nat) : Int) ≤ 9223372036854775807 := by
  have h := num_lt_any bs p s
  have := Nat.pow_le_pow_right (n := 256) (by omega) hs
  omega
theorem num_in8 (bs : List UInt8) (p : Nat) : 0 ≤ ((num bs p 8 : Nat) : Int) ∧ ((num bs p 8 : Nat) : Int) ≤ 18446744073709551615 := by
  have h := num_lt_any bs p 8
  omega
theorem ptpOf_in (bs : List UInt8) : (ptpOf bs).In :=
  { kind := num_in bs 0 1 (by omega), dom := num_in bs 4 1 (by omega), flags := num_in bs 6 2 (by omega), corr := sgn_in bs 8 8 (by omega), clock := num_in8 bs 20,
    port := num_in bs 28 2 (by omega), seq := num_in bs 30 2 (by omega), logi := sgn_in bs 33 1 (by omega), sec := num_in bs 34 6 (by omega), nano := num_in bs 40 4 (by omega),
    rclock := if_in _ _ _ _ (num_in8 bs 44) (by omega), rport := if_in _ _ _ _ (num_in bs 52 2 (by omega)) (by omega),
    utc := if_in' _ _ _ _ (sgn_in bs 44 2 (by omega)) (by omega), p1 := if_in' _ _ _ _ (num_in bs 47 1 (by omega)) (by omega), cls := if_in' _ _ _ _ (num_in bs 48 1 (by omega)) (by omega),
    acc := if_in' _ _ _ _ (num_in bs 49 1 (by omega)) (by omega), var := if_in' _ _ _ _ (num_in bs 50 2 (by omega)) (by omega), p2 := if_in' _ _ _ _ (num_in bs 52 1 (by omega)) (by omega),
    gm := if_in' _ _ _ _ (num_in8 bs 53) (by omega), steps := if_in' _ _ _ _ (num_in bs 61 2 (by omega)) (by omega), src := if_in' _ _ _ _ (num_in bs 63 1 (by omega)) (by omega) }

theorem ptp_one (p : Ptp) : (p.cells.toArray : Array Value).all (·.oneCell') = true := all_oneCell_toArray (by unfold Ptp.cells; repeat (first | exact List.forall_mem_nil _ | refine List.forall_mem_cons.2 ⟨rfl, ?_⟩))
/-- The world behind 'var p Ptp; p = v': a new block that holds v. -/
theorem ptp_put (p : Ptp) (w : World) : Blk ((w.alloc (.cells Ptp.zero.cells.toArray 28)).setCells w.heap.size 0 p.cells) w.heap.size 28 p.cells ∧ Below w.heap.size w ((w.alloc (.cells Ptp.zero.cells.toArray 28)).setCells w.heap.size 0 p.cells) :=
  ⟨blk_setCells p.cells [] Ptp.zero.cells _ (Blk.new w _ _) rfl, below_setCells (Nat.le_refl _) p.cells 0 _ ((Below.refl w.heap.size w).alloc (Nat.le_refl _) _)⟩

set_option maxHeartbeats 4000000 in
theorem ptpmsgCanonical_any (A : Option Addr) (m c : Nat) (bs : List UInt8) (w : World) (h : RB w A m c bs) :
    Calls Try.prog 6 #[.slice A m c] w fun e w' => e = .returned (.bool true) ∧ Below w.heap.size w w' := by
  have hlen := h.len
  have hmax := h.max
  have hcap := h.cap
  by_cases h300 : 300 < m
  · have h3 : (300 : Int) < (m : Int) := by omega
    go_enter Try.func6, Try.ntmps6
    go_wp2_with (go_at_call 13; refine (awake33 w).mono ?_; rintro e w4 ⟨rfl, hB4⟩)
    go_ret
    exact ⟨rfl, hB4⟩
  · have h3 : ¬ (300 : Int) < (m : Int) := by omega
    have HG := hide (show ptpErr bs ≠ 0 → ptpGot bs = Ptp.zero from fun he => by unfold ptpGot; rw [if_neg he])
    have HG0 := hide (show ptpErr bs = 0 → ptpCheck (ptpGot bs) = 0 ∧ ptpBytes (ptpGot bs) = bs ∧ (ptpGot bs).In from fun he => by
      have e : ptpGot bs = ptpOf bs := by unfold ptpGot; rw [if_pos he]
      rw [e]
      exact ⟨(err_zero he).2.2.2.2.2.2, ptp_canon he, ptpOf_in bs⟩)
    go_enter Try.func6, Try.ntmps6
    go_wp2_with fail
    refine (ptpDecode_any A m c bs w h (by omega)).mono ?_
    rintro e w1 ⟨rfl, hB1⟩
    have hr1 := h.below hB1
    generalize ptpErr bs = r at *
    generalize ptpGot bs = p at *
    rw [show p.val = .agg p.cells.toArray from rfl]
    have hth : (w1.alloc (.cells Ptp.zero.cells.toArray 28)).there w1.heap.size 0 p.cells.toArray.size := there21 (Blk.new w1 28 Ptp.zero.cells) rfl
    have hP := ptp_put p w1
    have HP := hide (And.intro hP.1 (And.intro (hr1.below hP.2) (below_step hB1 hP.2 hB1.size)))
    have one0 := ptp_one p
    have hi1 : (Try.prog.info? 28).map (·.size) = some p.cells.toArray.size := info21
    clear hP
    by_cases h0 : r = 0
    · obtain ⟨hck, hby, hin⟩ := HG0.out h0
      have Hby := hide hby
      have HE := hide (fun w => ptpEncode_ok p w hin hck)
      rw [hby, show p.val = .agg p.cells.toArray from rfl] at HE
      have hi2 := info21' p
      subst h0
      clear HG HG0 hck hby hin Hby
      generalize p.cells = cp at *
      go_wp2_with (first
        | (refine wpList_store_mid rfl 28 _ _ rfl w1.heap.size 0 cp.toArray rfl rfl hth hi1 one0 ?_; refine wpList_gen (fun W => Blk W w1.heap.size 28 cp ∧ RB W A m c bs ∧ Below w.heap.size w W) HP.out ?_; rintro W1 ⟨hN1, hr2, hW1⟩)
        | (refine wpList_load_mid rfl 28 _ rfl _ 0 rfl _ _ (range21 hN1) Try.underlying28 rfl hi2 ?_))
      refine (HE.out W1).mono ?_
      rintro e w2 ⟨A2, n2, c2, rfl, ho2, hB2⟩
      have hr3 := hr2.below hB2
      have hr4 := ho2.rb
      have hW2 := below_step hW1 hB2 hW1.size
      clear hN1 hW1 hB2 ho2 hr2 hth HP HE
      go_wp2_with (first
        | (go_at_call 16; refine (equal_any A m c bs A2 n2 c2 bs w2 hr3 hr4).mono ?_; rintro e w3 ⟨rfl, rfl⟩; rw [beq_self_eq_true])
        | (go_at_call 13; refine (awake33 w2).mono ?_; rintro e w4 ⟨rfl, hB4⟩))
      go_ret
      exact ⟨rfl, below_step hW2 hB4 hW2.size⟩
    · have Hp := HG.out h0
      have h0' : (r != 0) = true := by simpa using h0
      have hz := fun w => ptp_eql Ptp.zero Ptp.zero w
      rw [(ptpBeq_iff Ptp.zero Ptp.zero).2 rfl] at hz
      have hz2 : ∀ w, (Go.binOp .eql 28 (.agg p.cells.toArray) (.agg #[.int .i64 0, .int .i64 0, .int .i64 0, .int .i64 0, .int .u64 0, .int .i64 0, .int .i64 0, .int .i64 0, .int .i64 0, .int .i64 0, .int .u64 0, .int .i64 0, .int .i64 0, .int .i64 0, .int .i64 0, .int .i64 0, .int .i64 0, .int .i64 0, .int .u64 0, .int .i64 0, .int .i64 0])).run Try.prog w = .ok (.bool true) w := by rw [Hp]; exact hz
      have hi2 := info21' p
      clear HG HG0 hz h0 Hp
      generalize p.cells = cp at *
      go_wp2_with (first
        | (refine wpList_store_mid rfl 28 _ _ rfl w1.heap.size 0 cp.toArray rfl rfl hth hi1 one0 ?_; refine wpList_gen (fun W => Blk W w1.heap.size 28 cp ∧ RB W A m c bs ∧ Below w.heap.size w W) HP.out ?_; rintro W1 ⟨hN1, hr2, hW1⟩)
        | (refine wpList_load_mid rfl 28 _ rfl _ 0 rfl _ _ (range21 hN1) Try.underlying28 rfl hi2 ?_)
        | (go_at_call 13; refine (awake33 W1).mono ?_; rintro e w4 ⟨rfl, hB4⟩))
      go_ret
      exact ⟨rfl, below_step hW1 hB4 hW1.size⟩
end Go.Proofs.Ytlobddhpkemklaa
