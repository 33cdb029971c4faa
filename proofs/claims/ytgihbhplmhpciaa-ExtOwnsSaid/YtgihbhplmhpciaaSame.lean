/- The reference's Same of equal lists. -/
import Derived.Test.YtgihbhplmhpciaaExtW
import Derived.Test.YtgihbhplmhpciaaBytes
import Derived.Deep.QuietTactic
import Derived.BigQuiet
namespace Go.Proofs.Ytgihbhplmhpciaa
open Go.RowKit
set_option linter.unusedVariables false

set_option maxHeartbeats 400000 in
theorem same_any (D : Option Addr) (n d : Nat) (D' : Option Addr) (d' : Nat) (l : List Ext) (w : World) (h1 : RE w D n d l) (h2 : RE w D' n d' l) :
    Calls Try.prog 18 #[.slice D n d, .slice D' n d'] w fun e w' => e = .returned (.bool true) ∧ ∃ q, w' = w.drewN q := by
  have Hl := hide h1.len
  have hcap := h1.cap
  have hmax := h1.max
  go_enter Try.func18, Try.ntmps18
  go_wp2
  go_loopw [5] (fun i wr => ∃ k : Nat, k ≤ n ∧ i = .int .i64 k ∧ ∃ q, wr = w.drewN q) (fun i _ => n - (intOf i).toNat)
  case atStart => exact ⟨0, Nat.zero_le _, rfl, 0, rfl⟩
  case round =>
    obtain ⟨k, hk, rfl, q, rfl⟩ := hrel
    by_cases hlt : k < n
    · obtain ⟨x, hxk⟩ := get_some (l := l) (k := k) (by have := Hl.out; omega)
      obtain ⟨b, o, rfl, hb, hkd, hc0, A1, m1, c1, hc1, hr1⟩ := h1.at_ hxk
      obtain ⟨b', o', rfl, hb', _, hc0', A1', m1', c1', hc1', hr1'⟩ := h2.at_ hxk
      have conv : ∀ q, (Go.convert 22 9 (.slice A1 m1 c1)).run Try.prog (w.drewN q) = .ok (.string ⟨x.data.toArray⟩) (w.drewN q) := fun q =>
        (RB.below hr1 (below_drewN _ q)).convert _ 5 _ Try.underlying22 Try.underlying5 Try.underlying9
      have conv' : ∀ q, (Go.convert 22 9 (.slice A1' m1' c1')).run Try.prog (w.drewN q) = .ok (.string ⟨x.data.toArray⟩) (w.drewN q) := fun q =>
        (RB.below hr1' (below_drewN _ q)).convert _ 5 _ Try.underlying22 Try.underlying5 Try.underlying9
      go_wp2
      go_quiet (fail)
      go_wp2
      exact ⟨⟨k + 1, by omega, by go_num, _, rfl⟩, by simp [intOf]; omega⟩
    · obtain rfl : n = k := by omega
      go_wp2
      go_ret
      exact ⟨rfl, q, rfl⟩
end Go.Proofs.Ytgihbhplmhpciaa
