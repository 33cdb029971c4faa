/- prng.Mix and the reference's: one number.
  SEATS: cookie guard -/
import Derived.Test.YtdgjbaeflbggpaaMem
import Derived.Laws.Bits64
import Derived.BigQuiet
import Derived.Outline
namespace Go.Proofs.Ytdgjbaeflbggpaa
open Go.RowKit
set_option linter.unusedVariables false

def mixStart (a b : Int) : Int := IntKind.u64.wrap (a + IntKind.u64.wrap (11400714819323198485 * IntKind.u64.wrap (b + 1)))
def mixStep (x d c : Int) : Int := IntKind.u64.wrap (bits .xor .u64 x (x / d) * c)
def mixAt (a b : Int) : Nat → Int
  | 0 => mixStart a b
  | 1 => mixStep (mixStart a b) 1073741824 13787848793156543929
  | _ => mixStep (mixStep (mixStart a b) 1073741824 13787848793156543929) 134217728 10723151780598845931
/-- The number that both compute. -/
def mix (a b : Int) : Int := bits .xor .u64 (mixAt a b 2) (mixAt a b 2 / 2147483648)

theorem wrap_u64_range (x : Int) : 0 ≤ IntKind.u64.wrap x ∧ IntKind.u64.wrap x ≤ 18446744073709551615 := by
  rw [IntKind.wrap_u64]
  omega

theorem bits_u64_range (op : BinOp) (x y : Int) : 0 ≤ bits op .u64 x y ∧ bits op .u64 x y ≤ 18446744073709551615 := by
  have h (z : Int) := wrap_u64_range z
  unfold bits
  exact h _

theorem mix_range (a b : Int) : 0 ≤ mix a b ∧ mix a b ≤ 18446744073709551615 := bits_u64_range _ _ _

theorem refMix_any (a b : Int) (w : World) : Calls Try.prog 40 #[.int .u64 a, .int .u64 b] w fun e w' => e = .returned (.int .u64 (mix a b)) ∧ w = w' := by
  go_enter Try.func40, Try.ntmps40
  go_wp2
  go_ret
  exact ⟨rfl, rfl⟩

theorem mixAt_range (a b : Int) (k : Nat) : 0 ≤ mixAt a b k ∧ mixAt a b k ≤ 18446744073709551615 := by
  match k with
  | 0 => exact wrap_u64_range _
  | 1 => exact wrap_u64_range _
  | _ + 2 => exact wrap_u64_range _

set_option maxHeartbeats 1000000 in
theorem mix_any (a b : Int) (w : World) : Calls Try.prog 34 #[.int .u64 a, .int .u64 b] w fun e w' => e = .returned (.int .u64 (mix a b)) ∧ Below w.heap.size w w' := by
  have i0 : ∀ w, (Instr.index 78 (.agg #[.int .i64 30, .int .u64 13787848793156543929, .int .i64 27, .int .u64 10723151780598845931]) (.int .i64 0)).run Try.prog w = .ok (.agg #[.int .i64 30, .int .u64 13787848793156543929]) w := fun _ => by kernel_rfl
  have i1 : ∀ w, (Instr.index 78 (.agg #[.int .i64 30, .int .u64 13787848793156543929, .int .i64 27, .int .u64 10723151780598845931]) (.int .i64 1)).run Try.prog w = .ok (.agg #[.int .i64 27, .int .u64 10723151780598845931]) w := fun _ => by kernel_rfl
  go_enter Try.func34, Try.ntmps34
  go_wp2
  go_loopw [18, 6] (fun i n wr => (i = .int .i64 0 ∧ n = .int .u64 (mixAt a b 0) ∨ i = .int .i64 1 ∧ n = .int .u64 (mixAt a b 1) ∨ i = .int .i64 2 ∧ n = .int .u64 (mixAt a b 2)) ∧ Below w.heap.size w wr) (fun i _ _ => 2 - (intOf i).toNat)
  case atStart => exact ⟨.inl ⟨rfl, rfl⟩, (Below.refl _ _).alloc (Nat.le_refl _) _⟩
  case round =>
    obtain ⟨h, hB⟩ := hrel
    have hs := hB.size
    have hr := mixAt_range a b
    rcases h with ⟨rfl, rfl⟩ | ⟨rfl, rfl⟩ | ⟨rfl, rfl⟩
    · have hr := hr 0
      have Hx := hide (show mixAt a b 1 = mixStep (mixAt a b 0) 1073741824 13787848793156543929 from rfl)
      generalize mixAt a b 0 = x at *
      go_wp2_with (go_quiet (fail))
      exact ⟨⟨.inr (.inl ⟨by go_num, congrArg (Value.int .u64) Hx.out.symm⟩), Below.trans (hB.alloc hs _) ⟨rfl, rfl, rfl, Nat.le_refl _, fun _ _ => rfl⟩⟩, by simp [intOf]⟩
    · have hr := hr 1
      have Hx := hide (show mixAt a b 2 = mixStep (mixAt a b 1) 134217728 10723151780598845931 from rfl)
      generalize mixAt a b 1 = x at *
      go_wp2_with (go_quiet (fail))
      exact ⟨⟨.inr (.inr ⟨by go_num, congrArg (Value.int .u64) Hx.out.symm⟩), Below.trans (hB.alloc hs _) ⟨rfl, rfl, rfl, Nat.le_refl _, fun _ _ => rfl⟩⟩, by simp [intOf]⟩
    · go_wp2
      go_ret
      exact ⟨rfl, hB⟩
end Go.Proofs.Ytdgjbaeflbggpaa
