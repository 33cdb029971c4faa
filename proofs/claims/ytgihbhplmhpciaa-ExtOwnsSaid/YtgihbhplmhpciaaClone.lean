/- bytes.Clone of bytes that are there.
  SEATS: cookie guard ext -/
import Derived.Test.YtgihbhplmhpciaaMem
import Derived.Outline
import Derived.Laws.BitsAllLaws
namespace Go.Proofs.Ytgihbhplmhpciaa
open Go.RowKit
set_option linter.unusedVariables false

theorem clone_any (ad : Addr) (m c : Nat) (bs : List UInt8) (w : World) (h : RB w (some ad) m c bs) (hm : m ≤ 1000000) :
    Calls Try.prog 25 #[.slice (some ad) m c] w fun e w' => ∃ A' n' c', e = .returned (.slice A' n' c') ∧ OwnB w' w.heap.size A' n' c' bs ∧ Below w.heap.size w w' := by
  have hq : ∀ w, (Go.binOp .eql 22 (.slice (some ad) m c) (.slice none 0 0)).run Try.prog w = .ok (.bool false) w := fun _ => by rfl
  go_enter Try.func25, Try.ntmps25
  go_wp2_with (refine append_bytes rfl (.tmp 5) (.tmp 6) rfl _ 0 0 [] _ m c _ rfl rfl w.heap.size w (OwnB.empty w w.heap.size (Nat.le_refl _)) (h.alloc _) (by omega) ((Below.refl _ _).alloc (Nat.le_refl _) _) (by simp) ?_; intro A1 n1 c1 w1 hown1 hn1 hB1 hg1 _)
  go_ret
  exact ⟨A1, n1, c1, rfl, hown1.cast (by simp), hB1⟩

theorem xor_u8 (x : UInt8) (y : Nat) (hy : y < 256) : bits .xor .u8 (x.toNat : Int) (y : Int) = ((x ^^^ UInt8.ofNat y).toNat : Int) := by
  rw [u8_xor_nat _ _ x.toNat_lt hy, UInt8.toNat_xor, UInt8.toNat_ofNat', Nat.mod_eq_of_lt hy]
end Go.Proofs.Ytgihbhplmhpciaa
