/- Headers are compared field by field.
  SEATS: ext guard -/
import Derived.Test.YtgihbhplmhpciaaNtp
import Derived.Test.YtgihbhplmhpciaaProg
import Derived.KernelRfl
import Derived.Laws.StructEq
namespace Go.Proofs.Ytgihbhplmhpciaa
open Go.RowKit
set_option linter.unusedVariables false

theorem eqFields_same {P : Program} (w : World) (d : Nat) (xs : Array Value) : ∀ fs : List Field, (∀ f ∈ fs, ∃ k i, P.underlying f.type = some (.int k) ∧ xs[f.offset]? = some (.int k i)) → (Op.eqFields (d + 1) xs xs fs).run P w = .ok true w
  | [], _ => by simp [Op.eqFields]
  | f :: fs, h => by
    obtain ⟨k, i, hu, hx⟩ := h f (by simp)
    have ih := eqFields_same w d xs fs fun g hg => h g (by simp [hg])
    have hp : (part f.type xs f.offset).run P w = .ok (.int k i) w := by
      simp [part, isAgg, run_underlying hu, hx]
    have he : (Op.equalIn (d + 1) f.type (.int k i) (.int k i)).run P w = .ok true w := by
      rw [run_equalIn_int w d f.type k k i i hu, beq_self_eq_true]
    rw [Op.eqFields]
    by_cases hn : f.name ≠ "_"
    · rw [if_pos hn]
      simp only [Sem.run_bind, hp, he, Result.andThen_ok, Bool.not_true, Bool.false_eq_true, if_false, ih]
    · rw [if_neg hn, ih]

theorem fields_ntp : (Try.prog.fieldsOf 41).toList.map (fun f => (f.offset, f.type)) = [(0, 3), (1, 3), (2, 3), (3, 3), (4, 3), (5, 3), (6, 38), (7, 38), (8, 38), (9, 39), (10, 39), (11, 39), (12, 39)] := by kernel_rfl

theorem ntp_same (p : Ntp) (w : World) : (Op.equalIn 10000 41 p.val p.val).run Try.prog w = .ok true w := by
  unfold Ntp.val
  rw [run_equalIn_struct w 9999 _ _ _ (by kernel_rfl) (by kernel_rfl)]
  refine eqFields_same w 9998 _ _ fun f hf => ?_
  have hm : (f.offset, f.type) ∈ (Try.prog.fieldsOf 41).toList.map (fun f => (f.offset, f.type)) := List.mem_map.2 ⟨f, hf, rfl⟩
  rw [fields_ntp] at hm
  simp only [List.mem_cons, Prod.mk.injEq, List.not_mem_nil, or_false] at hm
  rcases hm with h | h | h | h | h | h | h | h | h | h | h | h | h
  all_goals rw [h.1, h.2]
  iterate 6 exact ⟨.i64, _, Try.underlying3, rfl⟩
  iterate 3 exact ⟨.u32, _, Try.underlying38, rfl⟩
  all_goals exact ⟨.u64, _, Try.underlying39, rfl⟩

theorem ntp_neq_same (p : Ntp) (w : World) : (Go.binOp .neq 41 p.val p.val).run Try.prog w = .ok (.bool false) w := by
  have h := ntp_same p w
  unfold Ntp.val at h ⊢
  rw [run_neq_struct, h]
  rfl
theorem ntp_eql_same (p : Ntp) (w : World) : (Go.binOp .eql 41 p.val p.val).run Try.prog w = .ok (.bool true) w := by
  have h := ntp_same p w
  unfold Ntp.val at h ⊢
  rw [run_eql_struct, h]
  rfl
end Go.Proofs.Ytgihbhplmhpciaa
