/- bytes.Equal. -/
import Derived.Test.YtgihbhplmhpciaaMem
import Derived.Outline
namespace Go.Proofs.Ytgihbhplmhpciaa
open Go.RowKit
set_option linter.unusedVariables false

theorem equal_any (A : Option Addr) (m c : Nat) (xs : List UInt8) (B : Option Addr) (n d : Nat) (ys : List UInt8) (w : World) (h1 : RB w A m c xs) (h2 : RB w B n d ys) :
    Calls Try.prog 15 #[.slice A m c, .slice B n d] w fun e w' => e = .returned (.bool (xs == ys)) ∧ w = w' := by
  have c1 := h1.convert 22 5 9 Try.underlying22 Try.underlying5 Try.underlying9
  have c2 := h2.convert 22 5 9 Try.underlying22 Try.underlying5 Try.underlying9
  go_enter Try.func15, Try.ntmps15
  go_wp2
  go_ret
  exact ⟨rfl, rfl⟩
end Go.Proofs.Ytgihbhplmhpciaa
