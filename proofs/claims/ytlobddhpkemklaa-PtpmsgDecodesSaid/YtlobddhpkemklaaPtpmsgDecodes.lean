/- PtpmsgDecodes: Decode returns the specified message or the error.
  SEATS: ptp -/
import Derived.Test.YtlobddhpkemklaaRefDz
import Derived.Test.YtlobddhpkemklaaPtpmsgCanonical
namespace Go.Proofs.Ytlobddhpkemklaa
open Go.RowKit
set_option linter.unusedVariables false

set_option maxHeartbeats 4000000 in
theorem ptpmsgDecodes_any (A : Option Addr) (m c : Nat) (bs : List UInt8) (w : World) (h : RB w A m c bs) :
    Calls Try.prog 5 #[.slice A m c] w fun e w' => e = .returned (.bool true) ∧ Below w.heap.size w w' := by
  have hlen := h.len
  have hmax := h.max
  have hcap := h.cap
  by_cases h300 : 300 < m
  · have h3 : (300 : Int) < (m : Int) := by omega
    go_enter Try.func5, Try.ntmps5
    go_wp2_with (go_at_call 13; refine (awake33 w).mono ?_; rintro e w4 ⟨rfl, hB4⟩)
    go_ret
    exact ⟨rfl, hB4⟩
  · have h3 : ¬ (300 : Int) < (m : Int) := by omega
    have HD := hide (fun w h => ptpDecode_any A m c bs w h (by omega))
    have HR := hide (fun w h => refDecode_any A m c bs w h (by omega))
    rw [show (ptpGot bs).val = .agg (ptpGot bs).cells.toArray from rfl] at HD HR
    have hz : ∀ w, (Go.binOp .eql 28 (.agg (ptpGot bs).cells.toArray) (.agg (ptpGot bs).cells.toArray)).run Try.prog w = .ok (.bool true) w := by
      have := fun w => ptp_eql (ptpGot bs) (ptpGot bs) w
      rw [(ptpBeq_iff (ptpGot bs) (ptpGot bs)).2 rfl] at this
      exact this
    have hth0 : ∀ w : World, (w.alloc (.cells Ptp.zero.cells.toArray 28)).there w.heap.size 0 (ptpGot bs).cells.toArray.size := fun w => there21 (Blk.new w 28 Ptp.zero.cells) rfl
    have Hth := hide hth0
    have Hput := hide (fun w => ptp_put (ptpGot bs) w)
    have one0 := ptp_one (ptpGot bs)
    have hi1 := info21' (ptpGot bs)
    have hj1 : (Try.prog.info? 28).map (·.size) = some (ptpGot bs).cells.toArray.size := info21
    clear hth0
    have Hz := hide hz
    clear hz
    generalize ptpErr bs = r at *
    generalize (ptpGot bs).cells = cp at *
    go_enter Try.func5, Try.ntmps5
    go_wp2_with fail
    refine (HD.out w h).mono ?_
    rintro e w1 ⟨rfl, hB1⟩
    have hP1 := Hput.out w1
    have hth := Hth.out w1
    have HP := hide (And.intro hP1.1 (And.intro ((h.below hB1).below hP1.2) (below_step hB1 hP1.2 hB1.size)))
    clear hP1 HD hB1
    go_wp2_with (refine wpList_store_mid rfl 28 _ _ rfl w1.heap.size 0 cp.toArray rfl rfl hth hj1 one0 ?_; refine wpList_gen (fun W => Blk W w1.heap.size 28 cp ∧ RB W A m c bs ∧ Below w.heap.size w W) HP.out ?_; rintro W2 ⟨hN2, hr2, hW2⟩)
    refine (HR.out W2 hr2).mono ?_
    rintro e w3 ⟨rfl, hB3⟩
    have hN3 := hN2.below' hB3
    have hW3 := below_step hW2 hB3 hW2.size
    have hP3 := Hput.out w3
    have hth3 := Hth.out w3
    have HP3 := hide (And.intro hP3.1 (And.intro (hN3.below' hP3.2) (below_step hW3 hP3.2 hW3.size)))
    have z0 := Hz.out
    clear hP3 hN3 hW3 hB3 hN2 hW2 hr2 HP hth HR
    go_wp2_with (first
      | (refine wpList_store_mid rfl 28 _ _ rfl w3.heap.size 0 cp.toArray rfl rfl hth3 hj1 one0 ?_; refine wpList_gen (fun W => Blk W w3.heap.size 28 cp ∧ Blk W w1.heap.size 28 cp ∧ Below w.heap.size w W) HP3.out ?_; rintro W4 ⟨hM4, hN4, hW4⟩)
      | (refine wpList_load_mid rfl 28 _ rfl _ 0 rfl _ _ (range21 hN4) Try.underlying28 rfl hi1 ?_)
      | (refine wpList_load_mid rfl 28 _ rfl _ 0 rfl _ _ (range21 hM4) Try.underlying28 rfl hi1 ?_)
      | (go_at_call 13; refine (awake33 W4).mono ?_; rintro e w5 ⟨rfl, hB5⟩))
    go_ret
    exact ⟨rfl, below_step hW4 hB5 hW4.size⟩
end Go.Proofs.Ytlobddhpkemklaa
