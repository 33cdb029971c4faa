/- The reference's Generation and Seal of nobody.
  SEATS: cookie guard -/
import Derived.Test.YtdgjbaeflbggpaaJar
namespace Go.Proofs.Ytdgjbaeflbggpaa
open Go.RowKit
set_option linter.unusedVariables false
theorem refGen_any (g : Nat) (s : Int) (gen keep : Nat) (w : World) (h : RefAt w g s gen keep) :
    Calls Try.prog 14 #[.pointer (some ⟨g, 0, none⟩)] w fun e w' => e = .returned (.int .i64 gen) ∧ w = w' := by
  have h1 := h.cell 2
  simp only [List.getElem?_cons_zero, List.getElem?_cons_succ] at h1
  go_enter Try.func14, Try.ntmps14
  go_wp2
  go_ret
  exact ⟨rfl, rfl⟩
theorem refGen_nil (w : World) :
    Calls Try.prog 14 #[.pointer none] w fun e w' => e = .returned (.int .i64 0) ∧ w = w' := by
  go_enter Try.func14, Try.ntmps14
  go_wp2
  go_ret
  exact ⟨rfl, rfl⟩
theorem refSeal_nil (k k' nonce : Value) (a b c d : Int) (hk : k = .agg #[.int .u64 a, .int .u64 b]) (hk' : k' = .agg #[.int .u64 c, .int .u64 d]) (w : World) :
    Calls Try.prog 12 #[.pointer none, k, k', nonce] w fun e w' => e = .returned (.slice none 0 0) ∧ Below w.heap.size w w' := by
  subst hk hk'
  go_enter Try.func12, Try.ntmps12
  go_wp2
  go_ret
  exact ⟨rfl, ((Below.refl _ _).alloc (Nat.le_refl _) _).alloc (by simp) _⟩
end Go.Proofs.Ytdgjbaeflbggpaa
