/- bytes.Equal. -/
import Derived.Test.YtlobddhpkemklaaMem
import Derived.Outline
namespace Go.Proofs.Ytlobddhpkemklaa
open Go.RowKit
set_option linter.unusedVariables false

theorem equal_any (A : Option Addr) (m c : Nat) (xs : List UInt8) (B : Option Addr) (n d : Nat) (ys : List UInt8) (w : World) (h1 : RB w A m c xs) (h2 : RB w B n d ys) :
    Calls Try.prog 16 #[.slice A m c, .slice B n d] w fun e w' => e = .returned (.bool (xs == ys)) ∧ w = w' := by
  have c1 := h1.convert 34 5 9 Try.underlying34 Try.underlying5 Try.underlying9
  have c2 := h2.convert 34 5 9 Try.underlying34 Try.underlying5 Try.underlying9
  go_enter Try.func16, Try.ntmps16
  go_wp2
  go_ret
  exact ⟨rfl, rfl⟩
end Go.Proofs.Ytlobddhpkemklaa
