/- bytes.Equal. -/
import Derived.Test.YtdgjbaeflbggpaaMem
import Derived.Outline
namespace Go.Proofs.Ytdgjbaeflbggpaa
open Go.RowKit
set_option linter.unusedVariables false

theorem equal_any (A : Option Addr) (m c : Nat) (xs : List UInt8) (B : Option Addr) (n d : Nat) (ys : List UInt8) (w : World) (h1 : RB w A m c xs) (h2 : RB w B n d ys) :
    Calls Try.prog 10 #[.slice A m c, .slice B n d] w fun e w' => e = .returned (.bool (xs == ys)) ∧ w = w' := by
  have c1 := h1.convert 30 5 9 Try.underlying30 Try.underlying5 Try.underlying9
  have c2 := h2.convert 30 5 9 Try.underlying30 Try.underlying5 Try.underlying9
  go_enter Try.func10, Try.ntmps10
  go_wp2
  go_ret
  exact ⟨rfl, rfl⟩
end Go.Proofs.Ytdgjbaeflbggpaa
