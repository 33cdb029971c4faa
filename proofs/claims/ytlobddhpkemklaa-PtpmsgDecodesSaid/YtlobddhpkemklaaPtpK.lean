/- Messages are compared field by field; Check.
  SEATS: ptp -/
import Derived.Test.YtlobddhpkemklaaPtpC
namespace Go.Proofs.Ytlobddhpkemklaa
open Go.RowKit
set_option linter.unusedVariables false

theorem eqFields_gen {P : Program} (w : World) (d : Nat) (xs ys : Array Value) (R : Field → Bool) : ∀ fs : List Field, (∀ f ∈ fs, f.name ≠ "_" ∧ ∃ a b, (part f.type xs f.offset).run P w = .ok a w ∧ (part f.type ys f.offset).run P w = .ok b w ∧ (Op.equalIn d f.type a b).run P w = .ok (R f) w) → (Op.eqFields d xs ys fs).run P w = .ok (fs.all R) w
  | [], _ => by simp [Op.eqFields]
  | f :: fs, h => by
    obtain ⟨hn, a, b, ha, hb, he⟩ := h f (by simp)
    have ih := eqFields_gen w d xs ys R fs fun g hg => h g (by simp [hg])
    rw [Op.eqFields, if_pos hn, List.all_cons]
    simp only [Sem.run_bind, ha, hb, he, Result.andThen_ok]
    cases hR : R f
    · simp
    · simp [ih]

def vi (xs : Array Value) (i : Nat) : Int := match xs[i]? with
  | some (.int _ n) => n
  | _ => 0

theorem fields_stamp : (Try.prog.fieldsOf 24).toList.map (fun f => (f.offset, f.type, decide (f.name ≠ "_"))) = [(0, 3, true), (1, 3, true)] := by kernel_rfl
theorem fields_ann : (Try.prog.fieldsOf 26).toList.map (fun f => (f.offset, f.type, decide (f.name ≠ "_"))) = [(0, 3, true), (1, 3, true), (2, 3, true), (3, 3, true), (4, 3, true), (5, 3, true), (6, 22, true), (7, 3, true), (8, 3, true)] := by kernel_rfl
theorem fields_ptp : (Try.prog.fieldsOf 28).toList.map (fun f => (f.offset, f.type, decide (f.name ≠ "_"))) = [(0, 3, true), (1, 3, true), (2, 3, true), (3, 3, true), (4, 22, true), (5, 3, true), (6, 3, true), (7, 3, true), (8, 24, true), (10, 22, true), (11, 3, true), (12, 26, true)] := by kernel_rfl

theorem all_off {fs : List Field} {l : List (Nat × TypeId × Bool)} (h : fs.map (fun f => (f.offset, f.type, decide (f.name ≠ "_"))) = l) (R : Nat → Bool) : fs.all (fun f => R f.offset) = l.all (fun x => R x.1) := by
  subst h
  induction fs with
  | nil => rfl
  | cons f fs ih => simp only [List.all_cons, List.map_cons, ih]

theorem ints_equal (d : Nat) (k : IntKind) (t : TypeId) (a b : Int) (w : World) (ht : Try.prog.underlying t = some (.int k)) : (Op.equalIn (d + 1) t (.int k a) (.int k b)).run Try.prog w = .ok (a == b) w := run_equalIn_int w d t k k a b ht
theorem part_int (k : IntKind) (t : TypeId) (xs : Array Value) (i : Nat) (n : Int) (w : World) (ht : Try.prog.underlying t = some (.int k)) (h : xs[i]? = some (.int k n)) : (part t xs i).run Try.prog w = .ok (.int k n) w := by
  simp [part, isAgg, run_underlying ht, h]

theorem stamp_equal (d : Nat) (a0 a1 b0 b1 : Int) (w : World) : (Op.equalIn (d + 2) 24 (.agg #[.int .i64 a0, .int .i64 a1]) (.agg #[.int .i64 b0, .int .i64 b1])).run Try.prog w = .ok (a0 == b0 && a1 == b1) w := by
  rw [run_equalIn_struct w (d + 1) _ _ _ (by kernel_rfl) (by kernel_rfl)]
  rw [eqFields_gen w (d + 1) #[.int .i64 a0, .int .i64 a1] #[.int .i64 b0, .int .i64 b1] (fun f => vi #[.int .i64 a0, .int .i64 a1] f.offset == vi #[.int .i64 b0, .int .i64 b1] f.offset)]
  · rw [all_off fields_stamp (fun o => vi #[.int .i64 a0, .int .i64 a1] o == vi #[.int .i64 b0, .int .i64 b1] o)]
    simp [vi]
  · intro f hf
    have hm := List.mem_map_of_mem (f := fun f : Field => (f.offset, f.type, decide (f.name ≠ "_"))) hf
    rw [fields_stamp] at hm
    simp only [List.mem_cons, Prod.mk.injEq, List.not_mem_nil, or_false] at hm
    rcases hm with h | h
    all_goals
      refine ⟨of_decide_eq_true h.2.2, ?_⟩
      rw [h.1, h.2.1]
    · exact ⟨_, _, part_int .i64 _ _ 0 a0 w Try.underlying3 rfl, part_int .i64 _ _ 0 b0 w Try.underlying3 rfl, ints_equal d .i64 _ a0 b0 w Try.underlying3⟩
    · exact ⟨_, _, part_int .i64 _ _ 1 a1 w Try.underlying3 rfl, part_int .i64 _ _ 1 b1 w Try.underlying3 rfl, ints_equal d .i64 _ a1 b1 w Try.underlying3⟩

theorem ann_equal (d : Nat) (a0 a1 a2 a3 a4 a5 a6 a7 a8 b0 b1 b2 b3 b4 b5 b6 b7 b8 : Int) (w : World) : (Op.equalIn (d + 2) 26 (.agg #[.int .i64 a0, .int .i64 a1, .int .i64 a2, .int .i64 a3, .int .i64 a4, .int .i64 a5, .int .u64 a6, .int .i64 a7, .int .i64 a8]) (.agg #[.int .i64 b0, .int .i64 b1, .int .i64 b2, .int .i64 b3, .int .i64 b4, .int .i64 b5, .int .u64 b6, .int .i64 b7, .int .i64 b8])).run Try.prog w = .ok ((a0 == b0 && (a1 == b1 && (a2 == b2 && (a3 == b3 && (a4 == b4 && (a5 == b5 && (a6 == b6 && (a7 == b7 && a8 == b8))))))))) w := by
  rw [run_equalIn_struct w (d + 1) _ _ _ (by kernel_rfl) (by kernel_rfl)]
  rw [eqFields_gen w (d + 1) #[.int .i64 a0, .int .i64 a1, .int .i64 a2, .int .i64 a3, .int .i64 a4, .int .i64 a5, .int .u64 a6, .int .i64 a7, .int .i64 a8] #[.int .i64 b0, .int .i64 b1, .int .i64 b2, .int .i64 b3, .int .i64 b4, .int .i64 b5, .int .u64 b6, .int .i64 b7, .int .i64 b8] (fun f => vi #[.int .i64 a0, .int .i64 a1, .int .i64 a2, .int .i64 a3, .int .i64 a4, .int .i64 a5, .int .u64 a6, .int .i64 a7, .int .i64 a8] f.offset == vi #[.int .i64 b0, .int .i64 b1, .int .i64 b2, .int .i64 b3, .int .i64 b4, .int .i64 b5, .int .u64 b6, .int .i64 b7, .int .i64 b8] f.offset)]
  · rw [all_off fields_ann (fun o => vi #[.int .i64 a0, .int .i64 a1, .int .i64 a2, .int .i64 a3, .int .i64 a4, .int .i64 a5, .int .u64 a6, .int .i64 a7, .int .i64 a8] o == vi #[.int .i64 b0, .int .i64 b1, .int .i64 b2, .int .i64 b3, .int .i64 b4, .int .i64 b5, .int .u64 b6, .int .i64 b7, .int .i64 b8] o)]
    simp [vi]
  · intro f hf
    have hm := List.mem_map_of_mem (f := fun f : Field => (f.offset, f.type, decide (f.name ≠ "_"))) hf
    rw [fields_ann] at hm
    simp only [List.mem_cons, Prod.mk.injEq, List.not_mem_nil, or_false] at hm
    rcases hm with h | h | h | h | h | h | h | h | h
    all_goals
      refine ⟨of_decide_eq_true h.2.2, ?_⟩
      rw [h.1, h.2.1]
    · exact ⟨_, _, part_int .i64 _ _ 0 a0 w Try.underlying3 rfl, part_int .i64 _ _ 0 b0 w Try.underlying3 rfl, ints_equal d .i64 _ a0 b0 w Try.underlying3⟩
    · exact ⟨_, _, part_int .i64 _ _ 1 a1 w Try.underlying3 rfl, part_int .i64 _ _ 1 b1 w Try.underlying3 rfl, ints_equal d .i64 _ a1 b1 w Try.underlying3⟩
    · exact ⟨_, _, part_int .i64 _ _ 2 a2 w Try.underlying3 rfl, part_int .i64 _ _ 2 b2 w Try.underlying3 rfl, ints_equal d .i64 _ a2 b2 w Try.underlying3⟩
    · exact ⟨_, _, part_int .i64 _ _ 3 a3 w Try.underlying3 rfl, part_int .i64 _ _ 3 b3 w Try.underlying3 rfl, ints_equal d .i64 _ a3 b3 w Try.underlying3⟩
    · exact ⟨_, _, part_int .i64 _ _ 4 a4 w Try.underlying3 rfl, part_int .i64 _ _ 4 b4 w Try.underlying3 rfl, ints_equal d .i64 _ a4 b4 w Try.underlying3⟩
    · exact ⟨_, _, part_int .i64 _ _ 5 a5 w Try.underlying3 rfl, part_int .i64 _ _ 5 b5 w Try.underlying3 rfl, ints_equal d .i64 _ a5 b5 w Try.underlying3⟩
    · exact ⟨_, _, part_int .u64 _ _ 6 a6 w Try.underlying22 rfl, part_int .u64 _ _ 6 b6 w Try.underlying22 rfl, ints_equal d .u64 _ a6 b6 w Try.underlying22⟩
    · exact ⟨_, _, part_int .i64 _ _ 7 a7 w Try.underlying3 rfl, part_int .i64 _ _ 7 b7 w Try.underlying3 rfl, ints_equal d .i64 _ a7 b7 w Try.underlying3⟩
    · exact ⟨_, _, part_int .i64 _ _ 8 a8 w Try.underlying3 rfl, part_int .i64 _ _ 8 b8 w Try.underlying3 rfl, ints_equal d .i64 _ a8 b8 w Try.underlying3⟩

set_option maxHeartbeats 1000000 in
theorem ptp_equal (d : Nat) (a0 a1 a2 a3 a4 a5 a6 a7 a8 a9 a10 a11 a12 a13 a14 a15 a16 a17 a18 a19 a20 b0 b1 b2 b3 b4 b5 b6 b7 b8 b9 b10 b11 b12 b13 b14 b15 b16 b17 b18 b19 b20 : Int) (w : World) : (Op.equalIn (d + 3) 28 (.agg #[.int .i64 a0, .int .i64 a1, .int .i64 a2, .int .i64 a3, .int .u64 a4, .int .i64 a5, .int .i64 a6, .int .i64 a7, .int .i64 a8, .int .i64 a9, .int .u64 a10, .int .i64 a11, .int .i64 a12, .int .i64 a13, .int .i64 a14, .int .i64 a15, .int .i64 a16, .int .i64 a17, .int .u64 a18, .int .i64 a19, .int .i64 a20]) (.agg #[.int .i64 b0, .int .i64 b1, .int .i64 b2, .int .i64 b3, .int .u64 b4, .int .i64 b5, .int .i64 b6, .int .i64 b7, .int .i64 b8, .int .i64 b9, .int .u64 b10, .int .i64 b11, .int .i64 b12, .int .i64 b13, .int .i64 b14, .int .i64 b15, .int .i64 b16, .int .i64 b17, .int .u64 b18, .int .i64 b19, .int .i64 b20])).run Try.prog w = .ok ((a0 == b0 && (a1 == b1 && (a2 == b2 && (a3 == b3 && (a4 == b4 && (a5 == b5 && (a6 == b6 && (a7 == b7 && (a8 == b8 && (a9 == b9 && (a10 == b10 && (a11 == b11 && ((a12 == b12 && (a13 == b13 && (a14 == b14 && (a15 == b15 && (a16 == b16 && (a17 == b17 && (a18 == b18 && (a19 == b19 && a20 == b20)))))))))))))))))))))) w := by
  rw [run_equalIn_struct w (d + 2) _ _ _ (by kernel_rfl) (by kernel_rfl)]
  rw [eqFields_gen w (d + 2) #[.int .i64 a0, .int .i64 a1, .int .i64 a2, .int .i64 a3, .int .u64 a4, .int .i64 a5, .int .i64 a6, .int .i64 a7, .int .i64 a8, .int .i64 a9, .int .u64 a10, .int .i64 a11, .int .i64 a12, .int .i64 a13, .int .i64 a14, .int .i64 a15, .int .i64 a16, .int .i64 a17, .int .u64 a18, .int .i64 a19, .int .i64 a20] #[.int .i64 b0, .int .i64 b1, .int .i64 b2, .int .i64 b3, .int .u64 b4, .int .i64 b5, .int .i64 b6, .int .i64 b7, .int .i64 b8, .int .i64 b9, .int .u64 b10, .int .i64 b11, .int .i64 b12, .int .i64 b13, .int .i64 b14, .int .i64 b15, .int .i64 b16, .int .i64 b17, .int .u64 b18, .int .i64 b19, .int .i64 b20] (fun f : Field => if f.offset = 8 then (a8 == b8 && a9 == b9) else if f.offset = 12 then ((a12 == b12 && (a13 == b13 && (a14 == b14 && (a15 == b15 && (a16 == b16 && (a17 == b17 && (a18 == b18 && (a19 == b19 && a20 == b20))))))))) else vi #[.int .i64 a0, .int .i64 a1, .int .i64 a2, .int .i64 a3, .int .u64 a4, .int .i64 a5, .int .i64 a6, .int .i64 a7, .int .i64 a8, .int .i64 a9, .int .u64 a10, .int .i64 a11, .int .i64 a12, .int .i64 a13, .int .i64 a14, .int .i64 a15, .int .i64 a16, .int .i64 a17, .int .u64 a18, .int .i64 a19, .int .i64 a20] f.offset == vi #[.int .i64 b0, .int .i64 b1, .int .i64 b2, .int .i64 b3, .int .u64 b4, .int .i64 b5, .int .i64 b6, .int .i64 b7, .int .i64 b8, .int .i64 b9, .int .u64 b10, .int .i64 b11, .int .i64 b12, .int .i64 b13, .int .i64 b14, .int .i64 b15, .int .i64 b16, .int .i64 b17, .int .u64 b18, .int .i64 b19, .int .i64 b20] f.offset)]
  · rw [all_off fields_ptp (fun o : Nat => if o = 8 then (a8 == b8 && a9 == b9) else if o = 12 then ((a12 == b12 && (a13 == b13 && (a14 == b14 && (a15 == b15 && (a16 == b16 && (a17 == b17 && (a18 == b18 && (a19 == b19 && a20 == b20))))))))) else vi #[.int .i64 a0, .int .i64 a1, .int .i64 a2, .int .i64 a3, .int .u64 a4, .int .i64 a5, .int .i64 a6, .int .i64 a7, .int .i64 a8, .int .i64 a9, .int .u64 a10, .int .i64 a11, .int .i64 a12, .int .i64 a13, .int .i64 a14, .int .i64 a15, .int .i64 a16, .int .i64 a17, .int .u64 a18, .int .i64 a19, .int .i64 a20] o == vi #[.int .i64 b0, .int .i64 b1, .int .i64 b2, .int .i64 b3, .int .u64 b4, .int .i64 b5, .int .i64 b6, .int .i64 b7, .int .i64 b8, .int .i64 b9, .int .u64 b10, .int .i64 b11, .int .i64 b12, .int .i64 b13, .int .i64 b14, .int .i64 b15, .int .i64 b16, .int .i64 b17, .int .u64 b18, .int .i64 b19, .int .i64 b20] o)]
    simp [vi, Bool.and_assoc]
  · intro f hf
    have hm := List.mem_map_of_mem (f := fun f : Field => (f.offset, f.type, decide (f.name ≠ "_"))) hf
    rw [fields_ptp] at hm
    simp only [List.mem_cons, Prod.mk.injEq, List.not_mem_nil, or_false] at hm
    rcases hm with h | h | h | h | h | h | h | h | h | h | h | h
    all_goals
      refine ⟨of_decide_eq_true h.2.2, ?_⟩
      rw [h.1, h.2.1]
    · exact ⟨_, _, part_int .i64 _ _ 0 a0 w Try.underlying3 rfl, part_int .i64 _ _ 0 b0 w Try.underlying3 rfl, ints_equal (d + 1) .i64 _ a0 b0 w Try.underlying3⟩
    · exact ⟨_, _, part_int .i64 _ _ 1 a1 w Try.underlying3 rfl, part_int .i64 _ _ 1 b1 w Try.underlying3 rfl, ints_equal (d + 1) .i64 _ a1 b1 w Try.underlying3⟩
    · exact ⟨_, _, part_int .i64 _ _ 2 a2 w Try.underlying3 rfl, part_int .i64 _ _ 2 b2 w Try.underlying3 rfl, ints_equal (d + 1) .i64 _ a2 b2 w Try.underlying3⟩
    · exact ⟨_, _, part_int .i64 _ _ 3 a3 w Try.underlying3 rfl, part_int .i64 _ _ 3 b3 w Try.underlying3 rfl, ints_equal (d + 1) .i64 _ a3 b3 w Try.underlying3⟩
    · exact ⟨_, _, part_int .u64 _ _ 4 a4 w Try.underlying22 rfl, part_int .u64 _ _ 4 b4 w Try.underlying22 rfl, ints_equal (d + 1) .u64 _ a4 b4 w Try.underlying22⟩
    · exact ⟨_, _, part_int .i64 _ _ 5 a5 w Try.underlying3 rfl, part_int .i64 _ _ 5 b5 w Try.underlying3 rfl, ints_equal (d + 1) .i64 _ a5 b5 w Try.underlying3⟩
    · exact ⟨_, _, part_int .i64 _ _ 6 a6 w Try.underlying3 rfl, part_int .i64 _ _ 6 b6 w Try.underlying3 rfl, ints_equal (d + 1) .i64 _ a6 b6 w Try.underlying3⟩
    · exact ⟨_, _, part_int .i64 _ _ 7 a7 w Try.underlying3 rfl, part_int .i64 _ _ 7 b7 w Try.underlying3 rfl, ints_equal (d + 1) .i64 _ a7 b7 w Try.underlying3⟩
    · exact ⟨.agg #[.int .i64 a8, .int .i64 a9], .agg #[.int .i64 b8, .int .i64 b9], by kernel_rfl, by kernel_rfl, stamp_equal d a8 a9 b8 b9 w⟩
    · exact ⟨_, _, part_int .u64 _ _ 10 a10 w Try.underlying22 rfl, part_int .u64 _ _ 10 b10 w Try.underlying22 rfl, ints_equal (d + 1) .u64 _ a10 b10 w Try.underlying22⟩
    · exact ⟨_, _, part_int .i64 _ _ 11 a11 w Try.underlying3 rfl, part_int .i64 _ _ 11 b11 w Try.underlying3 rfl, ints_equal (d + 1) .i64 _ a11 b11 w Try.underlying3⟩
    · exact ⟨.agg #[.int .i64 a12, .int .i64 a13, .int .i64 a14, .int .i64 a15, .int .i64 a16, .int .i64 a17, .int .u64 a18, .int .i64 a19, .int .i64 a20], .agg #[.int .i64 b12, .int .i64 b13, .int .i64 b14, .int .i64 b15, .int .i64 b16, .int .i64 b17, .int .u64 b18, .int .i64 b19, .int .i64 b20], by kernel_rfl, by kernel_rfl, ann_equal d a12 a13 a14 a15 a16 a17 a18 a19 a20 b12 b13 b14 b15 b16 b17 b18 b19 b20 w⟩

theorem ptp_eql (p q : Ptp) (w : World) : (Go.binOp .eql 28 p.val q.val).run Try.prog w = .ok (.bool (ptpBeq p q)) w := by
  obtain ⟨a0, a1, a2, a3, a4, a5, a6, a7, a8, a9, a10, a11, a12, a13, a14, a15, a16, a17, a18, a19, a20⟩ := p
  obtain ⟨b0, b1, b2, b3, b4, b5, b6, b7, b8, b9, b10, b11, b12, b13, b14, b15, b16, b17, b18, b19, b20⟩ := q
  unfold Ptp.val Ptp.cells
  rw [run_eql_struct, ptp_equal 9997]
  rfl
theorem ptp_neq (p q : Ptp) (w : World) : (Go.binOp .neq 28 p.val q.val).run Try.prog w = .ok (.bool (!ptpBeq p q)) w := by
  obtain ⟨a0, a1, a2, a3, a4, a5, a6, a7, a8, a9, a10, a11, a12, a13, a14, a15, a16, a17, a18, a19, a20⟩ := p
  obtain ⟨b0, b1, b2, b3, b4, b5, b6, b7, b8, b9, b10, b11, b12, b13, b14, b15, b16, b17, b18, b19, b20⟩ := q
  unfold Ptp.val Ptp.cells
  rw [run_neq_struct, ptp_equal 9997]
  rfl
theorem ann_neq0 (a0 a1 a2 a3 a4 a5 a6 a7 a8 : Int) (w : World) : (Go.binOp .neq 26 (.agg #[.int .i64 a0, .int .i64 a1, .int .i64 a2, .int .i64 a3, .int .i64 a4, .int .i64 a5, .int .u64 a6, .int .i64 a7, .int .i64 a8]) (.agg #[.int .i64 0, .int .i64 0, .int .i64 0, .int .i64 0, .int .i64 0, .int .i64 0, .int .u64 0, .int .i64 0, .int .i64 0])).run Try.prog w = .ok (.bool (!((a0 == 0 && (a1 == 0 && (a2 == 0 && (a3 == 0 && (a4 == 0 && (a5 == 0 && (a6 == 0 && (a7 == 0 && a8 == 0))))))))))) w := by
  rw [run_neq_struct, ann_equal 9998]
  rfl
end Go.Proofs.Ytlobddhpkemklaa
