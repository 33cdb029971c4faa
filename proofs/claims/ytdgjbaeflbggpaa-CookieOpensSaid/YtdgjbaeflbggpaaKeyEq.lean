/- Keys are compared number by number.
  SEATS: cookie guard -/
import Derived.Test.YtdgjbaeflbggpaaBase
import Derived.Test.YtdgjbaeflbggpaaProg
import Derived.KernelRfl
import Derived.Laws.StructEq
import Derived.Stop.BytesEq
namespace Go.Proofs.Ytdgjbaeflbggpaa
open Go.RowKit
set_option linter.unusedVariables false

theorem equalIn_key (d : Nat) (a b c e : Int) (w : World) : (Op.equalIn (d + 2) 24 (.agg #[.int .u64 a, .int .u64 b]) (.agg #[.int .u64 c, .int .u64 e])).run Try.prog w = .ok (a == c && b == e) w := by
  have hsz : ∀ w, (sizeOf 22).run Try.prog w = .ok 1 w := fun w => by kernel_rfl
  have p0 : ∀ u v : Int, (part 22 #[.int .u64 u, .int .u64 v] (0 * 1)).run Try.prog w = .ok (.int .u64 u) w := fun u v => by
    simp [part, isAgg, run_underlying Try.underlying22]
  have p1 : ∀ u v : Int, (part 22 #[.int .u64 u, .int .u64 v] (1 * 1)).run Try.prog w = .ok (.int .u64 v) w := fun u v => by
    simp [part, isAgg, run_underlying Try.underlying22]
  have pe : ∀ u v : Int, (Op.equalIn (d + 1) 22 (.int .u64 u) (.int .u64 v)).run Try.prog w = .ok (u == v) w := fun u v => run_equalIn_int w d 22 .u64 .u64 u v Try.underlying22
  rw [Op.equalIn]
  simp only [Sem.run_bind, run_underlying Try.underlying24, Result.andThen_ok, hsz, Std.Legacy.Range.forIn_eq_forIn_range', Std.Legacy.Range.size, Nat.sub_zero, Nat.add_sub_cancel, Nat.div_one]
  rw [show List.range' 0 2 1 = [0, 1] from rfl]
  simp only [List.forIn_cons, Sem.run_bind, p0, pe, Result.andThen_ok]
  cases h0 : (a == c)
  · simp
  · simp only [Bool.not_true, Bool.false_eq_true, if_false, Sem.run_pure, Result.andThen_ok, Bool.true_and, Sem.run_bind, p1, pe]
    cases h1 : (b == e)
    · simp
    · simp

theorem key_eql (a b c e : Int) (w : World) : (Go.binOp .eql 24 (.agg #[.int .u64 a, .int .u64 b]) (.agg #[.int .u64 c, .int .u64 e])).run Try.prog w = .ok (.bool (a == c && b == e)) w := by
  rw [run_eql_struct, equalIn_key 9998]
  rfl
theorem key_neq (a b c e : Int) (w : World) : (Go.binOp .neq 24 (.agg #[.int .u64 a, .int .u64 b]) (.agg #[.int .u64 c, .int .u64 e])).run Try.prog w = .ok (.bool (!(a == c && b == e))) w := by
  rw [run_neq_struct, equalIn_key 9998]
  rfl
theorem key_eql_same (a b : Int) (w : World) : (Go.binOp .eql 24 (.agg #[.int .u64 a, .int .u64 b]) (.agg #[.int .u64 a, .int .u64 b])).run Try.prog w = .ok (.bool true) w := by
  rw [key_eql, beq_self_eq_true, beq_self_eq_true]
  rfl
theorem key_neq_same (a b : Int) (w : World) : (Go.binOp .neq 24 (.agg #[.int .u64 a, .int .u64 b]) (.agg #[.int .u64 a, .int .u64 b])).run Try.prog w = .ok (.bool false) w := by
  rw [key_neq, beq_self_eq_true, beq_self_eq_true]
  rfl
end Go.Proofs.Ytdgjbaeflbggpaa
