/- The message chapter's examples.
  SEATS: ptp -/
import Derived.Test.YtlobddhpkemklaaPtpD
namespace Go.Proofs.Ytlobddhpkemklaa
open Go.RowKit
set_option linter.unusedVariables false

theorem wpList_load_w {P : Program} {ops : Array Oper} {rest : List Oper} {op : Oper} {a : Act} {w : World} {Q : Exit → Act → World → Prop} (hw : Region.wanted op (yielded ops a.tmps) = true) (ty : TypeId) (x : Operand) (ho : op.op = .load ty x)
    (b o : Nat) (hx : a.eval x = .pointer (some ⟨b, o, none⟩)) (cs : List Value) (d : TypeDesc) (hc : w.rangeAt b o cs)
    (hu : P.underlying ty = some d) (hd : d.isRow = true) (hi : (P.info? ty).map (·.size) = some cs.length)
    (h : wpList P ops Q rest (a.put op.dst (.agg cs.toArray)) w) : wpList P ops Q (op :: rest) a w :=
  wpList_wanted hw fun _ hK => wp_load_mid ty x ho b o hx cs d hc hu hd hi (hK _ _ h)

/-- The example's message. -/
def ptpA : Ptp := ⟨0, 1, 512, -1, 258, 3, 4, -3, 1, 5, 0, 0, 0, 0, 0, 0, 0, 0, 0, 0, 0⟩
def ptpB : Ptp := ⟨0, 0, 0, 0, 0, 0, 0, 0, 0, 0, 0, 1, 0, 0, 0, 0, 0, 0, 0, 0, 0⟩
def ptpC : Ptp := ⟨0, 0, 0, 0, 0, 0, 0, 0, 0, 0, 0, 65536, 0, 0, 0, 0, 0, 0, 0, 0, 0⟩
def wantA : List UInt8 := [0, 2, 0, 44, 1, 0, 2, 0, 255, 255, 255, 255, 255, 255, 255, 255, 0, 0, 0, 0, 0, 0, 0, 0, 0, 0, 1, 2, 0, 3, 0, 4, 0, 253, 0, 0, 0, 0, 0, 1, 0, 0, 0, 5]
theorem ptpA_bytes : ptpBytes ptpA = wantA := by kernel_rfl
theorem ptpA_err : ptpErr wantA = 0 := by kernel_rfl
theorem ptpA_of : ptpOf wantA = ptpA := by kernel_rfl
theorem ptpA_got : ptpGot wantA = ptpA := by
  unfold ptpGot
  rw [if_pos ptpA_err, ptpA_of]
theorem ptpA_check : ptpCheck ptpA = 0 := by kernel_rfl
theorem ptpB_check : ptpCheck ptpB = 7 := by kernel_rfl
theorem ptpC_check : ptpCheck ptpC = 3 := by kernel_rfl
theorem ptpA_in : ptpA.In := by
  constructor <;> simp [ptpA]

theorem gen_w {C : Act → World → Prop} {a : Act} {w : World} (P : World → Prop) (hP : P w) (h : ∀ W, P W → C a W) : C a w := h w hP

set_option maxHeartbeats 2000000 in
theorem awake33 (w : World) : Calls Try.prog 13 #[] w fun e w' => e = .returned (.bool true) ∧ Below w.heap.size w w' := by
  have HE := hide (fun w => ptpEncode_ok ptpA w ptpA_in ptpA_check)
  rw [ptpA_bytes, show ptpA.val = .agg #[.int .i64 0, .int .i64 1, .int .i64 512, .int .i64 (-1), .int .u64 258, .int .i64 3, .int .i64 4, .int .i64 (-3), .int .i64 1, .int .i64 5, .int .u64 0, .int .i64 0, .int .i64 0, .int .i64 0, .int .i64 0, .int .i64 0, .int .i64 0, .int .i64 0, .int .u64 0, .int .i64 0, .int .i64 0] from rfl] at HE
  have HB := hide (fun w => ptpCheck_any ptpB w (by simp [ptpB]))
  have HC := hide (fun w => ptpCheck_any ptpC w (by simp [ptpC]))
  rw [ptpB_check, show ptpB.val = .agg #[.int .i64 0, .int .i64 0, .int .i64 0, .int .i64 0, .int .u64 0, .int .i64 0, .int .i64 0, .int .i64 0, .int .i64 0, .int .i64 0, .int .u64 0, .int .i64 1, .int .i64 0, .int .i64 0, .int .i64 0, .int .i64 0, .int .i64 0, .int .i64 0, .int .u64 0, .int .i64 0, .int .i64 0] from rfl] at HB
  rw [ptpC_check, show ptpC.val = .agg #[.int .i64 0, .int .i64 0, .int .i64 0, .int .i64 0, .int .u64 0, .int .i64 0, .int .i64 0, .int .i64 0, .int .i64 0, .int .i64 0, .int .u64 0, .int .i64 65536, .int .i64 0, .int .i64 0, .int .i64 0, .int .i64 0, .int .i64 0, .int .i64 0, .int .u64 0, .int .i64 0, .int .i64 0] from rfl] at HC
  have hz := fun w => ptp_eql ptpA ptpA w
  rw [(ptpBeq_iff ptpA ptpA).2 rfl, show ptpA.val = .agg #[.int .i64 0, .int .i64 1, .int .i64 512, .int .i64 (-1), .int .u64 258, .int .i64 3, .int .i64 4, .int .i64 (-3), .int .i64 1, .int .i64 5, .int .u64 0, .int .i64 0, .int .i64 0, .int .i64 0, .int .i64 0, .int .i64 0, .int .i64 0, .int .i64 0, .int .u64 0, .int .i64 0, .int .i64 0] from rfl] at hz
  have Hz := hide hz
  clear hz
  have hN := Blk.new w 28 [.int .i64 0, .int .i64 0, .int .i64 0, .int .i64 0, .int .u64 0, .int .i64 0, .int .i64 0, .int .i64 0, .int .i64 0, .int .i64 0, .int .u64 0, .int .i64 0, .int .i64 0, .int .i64 0, .int .i64 0, .int .i64 0, .int .i64 0, .int .i64 0, .int .u64 0, .int .i64 0, .int .i64 0]
  have hth := there21 hN rfl
  have one0 : (#[.int .i64 0, .int .i64 1, .int .i64 512, .int .i64 (-1), .int .u64 258, .int .i64 3, .int .i64 4, .int .i64 (-3), .int .i64 1, .int .i64 5, .int .u64 0, .int .i64 0, .int .i64 0, .int .i64 0, .int .i64 0, .int .i64 0, .int .i64 0, .int .i64 0, .int .u64 0, .int .i64 0, .int .i64 0] : Array Value).all (·.oneCell') = true := all_oneCell_toArray (by repeat (first | exact List.forall_mem_nil _ | refine List.forall_mem_cons.2 ⟨rfl, ?_⟩))
  have HP := hide (⟨blk_setCells [.int .i64 0, .int .i64 1, .int .i64 512, .int .i64 (-1), .int .u64 258, .int .i64 3, .int .i64 4, .int .i64 (-3), .int .i64 1, .int .i64 5, .int .u64 0, .int .i64 0, .int .i64 0, .int .i64 0, .int .i64 0, .int .i64 0, .int .i64 0, .int .i64 0, .int .u64 0, .int .i64 0, .int .i64 0] [] [.int .i64 0, .int .i64 0, .int .i64 0, .int .i64 0, .int .u64 0, .int .i64 0, .int .i64 0, .int .i64 0, .int .i64 0, .int .i64 0, .int .u64 0, .int .i64 0, .int .i64 0, .int .i64 0, .int .i64 0, .int .i64 0, .int .i64 0, .int .i64 0, .int .u64 0, .int .i64 0, .int .i64 0] _ hN rfl, below_setCells (Nat.le_refl w.heap.size) [.int .i64 0, .int .i64 1, .int .i64 512, .int .i64 (-1), .int .u64 258, .int .i64 3, .int .i64 4, .int .i64 (-3), .int .i64 1, .int .i64 5, .int .u64 0, .int .i64 0, .int .i64 0, .int .i64 0, .int .i64 0, .int .i64 0, .int .i64 0, .int .i64 0, .int .u64 0, .int .i64 0, .int .i64 0] 0 _ ((Below.refl w.heap.size w).alloc (Nat.le_refl _) (.cells #[.int .i64 0, .int .i64 0, .int .i64 0, .int .i64 0, .int .u64 0, .int .i64 0, .int .i64 0, .int .i64 0, .int .i64 0, .int .i64 0, .int .u64 0, .int .i64 0, .int .i64 0, .int .i64 0, .int .i64 0, .int .i64 0, .int .i64 0, .int .i64 0, .int .u64 0, .int .i64 0, .int .i64 0] 28))⟩ : _ ∧ _)
  clear hN
  go_enter Try.func13, Try.ntmps13
  go_wp2_with (first
    | (refine wpList_load_mid rfl 28 _ rfl _ 0 rfl _ _ (range21 hN1) Try.underlying28 rfl info21 ?_)
    | (refine wpList_store_mid rfl 28 _ _ rfl _ 0 _ rfl rfl hth info21 one0 ?_; refine wpList_gen (fun W => Blk W w.heap.size 28 [.int .i64 0, .int .i64 1, .int .i64 512, .int .i64 (-1), .int .u64 258, .int .i64 3, .int .i64 4, .int .i64 (-3), .int .i64 1, .int .i64 5, .int .u64 0, .int .i64 0, .int .i64 0, .int .i64 0, .int .i64 0, .int .i64 0, .int .i64 0, .int .i64 0, .int .u64 0, .int .i64 0, .int .i64 0] ∧ Below w.heap.size w W) HP.out ?_; rintro W1 ⟨hN1, hW1⟩))
  refine (HE.out W1).mono ?_
  rintro e w2 ⟨A, n, c, rfl, hown, hB2⟩
  obtain rfl : n = 44 := by rw [← hown.len]; rfl
  have hN2 := hN1.below' hB2
  have hW2 := below_step hW1 hB2 hW1.size
  have hr2 := hown.rb
  clear hN1 hW1 hown hB2 hth HP
  go_wp2_with fail
  refine (ptpDecode_any A 44 c wantA w2 hr2 (by omega)).mono ?_
  rintro e w3 ⟨rfl, hB3⟩
  rw [ptpA_err, ptpA_got, show ptpA.val = .agg #[.int .i64 0, .int .i64 1, .int .i64 512, .int .i64 (-1), .int .u64 258, .int .i64 3, .int .i64 4, .int .i64 (-3), .int .i64 1, .int .i64 5, .int .u64 0, .int .i64 0, .int .i64 0, .int .i64 0, .int .i64 0, .int .i64 0, .int .i64 0, .int .i64 0, .int .u64 0, .int .i64 0, .int .i64 0] from rfl]
  have hN3 := hN2.below' hB3
  have hW3 := below_step hW2 hB3 hW2.size
  have hr3 := hr2.below hB3
  have hZ3 := Blk.new w3 28 [.int .i64 0, .int .i64 0, .int .i64 0, .int .i64 0, .int .u64 0, .int .i64 0, .int .i64 0, .int .i64 0, .int .i64 0, .int .i64 0, .int .u64 0, .int .i64 0, .int .i64 0, .int .i64 0, .int .i64 0, .int .i64 0, .int .i64 0, .int .i64 0, .int .u64 0, .int .i64 0, .int .i64 0]
  have hth := there21 hZ3 rfl
  have hne : w.heap.size ≠ w3.heap.size := Nat.ne_of_lt hN3.lt
  have hwl : w.heap.size ≤ w3.heap.size := hW3.size
  have hal := (Below.refl w3.heap.size w3).alloc (Nat.le_refl _) (.cells #[.int .i64 0, .int .i64 0, .int .i64 0, .int .i64 0, .int .u64 0, .int .i64 0, .int .i64 0, .int .i64 0, .int .i64 0, .int .i64 0, .int .u64 0, .int .i64 0, .int .i64 0, .int .i64 0, .int .i64 0, .int .i64 0, .int .i64 0, .int .i64 0, .int .u64 0, .int .i64 0, .int .i64 0] 28)
  have hr4 := hr3.below (below_setCells (Nat.le_refl w3.heap.size) [.int .i64 0, .int .i64 1, .int .i64 512, .int .i64 (-1), .int .u64 258, .int .i64 3, .int .i64 4, .int .i64 (-3), .int .i64 1, .int .i64 5, .int .u64 0, .int .i64 0, .int .i64 0, .int .i64 0, .int .i64 0, .int .i64 0, .int .i64 0, .int .i64 0, .int .u64 0, .int .i64 0, .int .i64 0] 0 _ hal)
  have HP := hide (⟨blk_setCells [.int .i64 0, .int .i64 1, .int .i64 512, .int .i64 (-1), .int .u64 258, .int .i64 3, .int .i64 4, .int .i64 (-3), .int .i64 1, .int .i64 5, .int .u64 0, .int .i64 0, .int .i64 0, .int .i64 0, .int .i64 0, .int .i64 0, .int .i64 0, .int .i64 0, .int .u64 0, .int .i64 0, .int .i64 0] [] [.int .i64 0, .int .i64 0, .int .i64 0, .int .i64 0, .int .u64 0, .int .i64 0, .int .i64 0, .int .i64 0, .int .i64 0, .int .i64 0, .int .u64 0, .int .i64 0, .int .i64 0, .int .i64 0, .int .i64 0, .int .i64 0, .int .i64 0, .int .i64 0, .int .u64 0, .int .i64 0, .int .i64 0] _ hZ3 rfl, blk_farCells hne [.int .i64 0, .int .i64 1, .int .i64 512, .int .i64 (-1), .int .u64 258, .int .i64 3, .int .i64 4, .int .i64 (-3), .int .i64 1, .int .i64 5, .int .u64 0, .int .i64 0, .int .i64 0, .int .i64 0, .int .i64 0, .int .i64 0, .int .i64 0, .int .i64 0, .int .u64 0, .int .i64 0, .int .i64 0] 0 _ (hN3.alloc (.cells #[.int .i64 0, .int .i64 0, .int .i64 0, .int .i64 0, .int .u64 0, .int .i64 0, .int .i64 0, .int .i64 0, .int .i64 0, .int .i64 0, .int .u64 0, .int .i64 0, .int .i64 0, .int .i64 0, .int .i64 0, .int .i64 0, .int .i64 0, .int .i64 0, .int .u64 0, .int .i64 0, .int .i64 0] 28)), hr4, below_setCells hwl [.int .i64 0, .int .i64 1, .int .i64 512, .int .i64 (-1), .int .u64 258, .int .i64 3, .int .i64 4, .int .i64 (-3), .int .i64 1, .int .i64 5, .int .u64 0, .int .i64 0, .int .i64 0, .int .i64 0, .int .i64 0, .int .i64 0, .int .i64 0, .int .i64 0, .int .u64 0, .int .i64 0, .int .i64 0] 0 _ (hW3.alloc hwl (.cells #[.int .i64 0, .int .i64 0, .int .i64 0, .int .i64 0, .int .u64 0, .int .i64 0, .int .i64 0, .int .i64 0, .int .i64 0, .int .i64 0, .int .u64 0, .int .i64 0, .int .i64 0, .int .i64 0, .int .i64 0, .int .i64 0, .int .i64 0, .int .i64 0, .int .u64 0, .int .i64 0, .int .i64 0] 28))⟩ : _ ∧ _ ∧ _ ∧ _)
  clear hN2 hW2 hr2 hB3 hN3 hW3 hr3 hZ3 hal hr4
  go_wp2_with (refine wpList_store_mid rfl 28 _ _ rfl _ 0 _ rfl rfl hth info21 one0 ?_; refine wpList_gen (fun W => Blk W w3.heap.size 28 [.int .i64 0, .int .i64 1, .int .i64 512, .int .i64 (-1), .int .u64 258, .int .i64 3, .int .i64 4, .int .i64 (-3), .int .i64 1, .int .i64 5, .int .u64 0, .int .i64 0, .int .i64 0, .int .i64 0, .int .i64 0, .int .i64 0, .int .i64 0, .int .i64 0, .int .u64 0, .int .i64 0, .int .i64 0] ∧ Blk W w.heap.size 28 [.int .i64 0, .int .i64 1, .int .i64 512, .int .i64 (-1), .int .u64 258, .int .i64 3, .int .i64 4, .int .i64 (-3), .int .i64 1, .int .i64 5, .int .u64 0, .int .i64 0, .int .i64 0, .int .i64 0, .int .i64 0, .int .i64 0, .int .i64 0, .int .i64 0, .int .u64 0, .int .i64 0, .int .i64 0] ∧ RB W A 44 c wantA ∧ Below w.heap.size w W) HP.out ?_; rintro W4 ⟨hQ4, hN4, hr4, hW4⟩; have hL := (Blk.new W4 5 [.int .u8 0, .int .u8 2, .int .u8 0, .int .u8 44, .int .u8 1, .int .u8 0, .int .u8 2, .int .u8 0, .int .u8 255, .int .u8 255, .int .u8 255, .int .u8 255, .int .u8 255, .int .u8 255, .int .u8 255, .int .u8 255, .int .u8 0, .int .u8 0, .int .u8 0, .int .u8 0, .int .u8 0, .int .u8 0, .int .u8 0, .int .u8 0, .int .u8 0, .int .u8 0, .int .u8 1, .int .u8 2, .int .u8 0, .int .u8 3, .int .u8 0, .int .u8 4, .int .u8 0, .int .u8 253, .int .u8 0, .int .u8 0, .int .u8 0, .int .u8 0, .int .u8 0, .int .u8 1, .int .u8 0, .int .u8 0, .int .u8 0, .int .u8 5]).rb (bs := wantA) (n := 44) (c := 44) rfl (Nat.le_refl _) (by omega); have hX := (Below.refl W4.heap.size W4).alloc (Nat.le_refl _) (.cells #[.int .u8 0, .int .u8 2, .int .u8 0, .int .u8 44, .int .u8 1, .int .u8 0, .int .u8 2, .int .u8 0, .int .u8 255, .int .u8 255, .int .u8 255, .int .u8 255, .int .u8 255, .int .u8 255, .int .u8 255, .int .u8 255, .int .u8 0, .int .u8 0, .int .u8 0, .int .u8 0, .int .u8 0, .int .u8 0, .int .u8 0, .int .u8 0, .int .u8 0, .int .u8 0, .int .u8 1, .int .u8 2, .int .u8 0, .int .u8 3, .int .u8 0, .int .u8 4, .int .u8 0, .int .u8 253, .int .u8 0, .int .u8 0, .int .u8 0, .int .u8 0, .int .u8 0, .int .u8 1, .int .u8 0, .int .u8 0, .int .u8 0, .int .u8 5] 5))
  refine (equal_any A 44 c wantA _ 44 44 wantA _ (hr4.below hX) hL).mono ?_
  rintro e w5 ⟨rfl, rfl⟩
  rw [beq_self_eq_true]
  have hQ5 := hQ4.below' hX
  have hN5 := hN4.below' hX
  have hW5 := below_step hW4 hX hW4.size
  have z0 := Hz.out
  have q1 := range21 hQ5
  have q2 := range21 hN5
  clear hQ4 hN4 hr4 hW4 hL hth HP
  go_wp2_with (first
    | (refine wpList_load_w rfl 28 _ rfl _ 0 rfl _ _ q1 Try.underlying28 rfl info21 ?_)
    | (refine wpList_load_w rfl 28 _ rfl _ 0 rfl _ _ q2 Try.underlying28 rfl info21 ?_)
    | (go_at_call 9; refine (HC.out w6).mono ?_; rintro e w7 ⟨rfl, hB7⟩)
    | (go_at_call 9; refine (HB.out _).mono ?_; rintro e w6 ⟨rfl, hB6⟩))
  go_ret
  have hW6 := below_step hW5 hB6 hW5.size
  exact ⟨rfl, below_step hW6 hB7 hW6.size⟩
end Go.Proofs.Ytlobddhpkemklaa
