/- CookieOpens.
  SEATS: cookie -/
import Derived.Test.YtdgjbaeflbggpaaTurned
import Derived.Test.YtdgjbaeflbggpaaROpen
import Derived.Test.YtdgjbaeflbggpaaKeyEq
namespace Go.Proofs.Ytdgjbaeflbggpaa
open Go.RowKit
set_option linter.unusedVariables false

/-- Two keys and an error. -/
def triple (a b c d e : Int) : Value := .tuple #[.agg #[.int .u64 a, .int .u64 b], .agg #[.int .u64 c, .int .u64 d], .int .i64 e]

theorem openRes_form (s : Int) (gen keep : Nat) (bs : List UInt8) : ∃ a b c d e, openRes s gen keep bs = triple a b c d e := by
  unfold openRes
  split
  · exact ⟨0, 0, 0, 0, 17, rfl⟩
  · split
    · exact ⟨_, _, _, _, 0, rfl⟩
    · exact ⟨0, 0, 0, 0, 16, rfl⟩

theorem both_open (s : Int) (gen keep : Nat) (A : Option Addr) (m c : Nat) (bs : List UInt8) (hG : 1 ≤ gen ∧ gen ≤ 2147483647) (hK : 1 ≤ keep ∧ keep ≤ 8) : ∃ x0 x1 x2 x3 x4 : Int,
    (∀ g w, JarAt w g s gen keep → RB w A m c bs → Calls Try.prog 16 #[.pointer (some ⟨g, 0, none⟩), .slice A m c] w fun e w' => e = .returned (triple x0 x1 x2 x3 x4) ∧ Below w.heap.size w w') ∧
    (∀ g w, RefAt w g s gen keep → RB w A m c bs → Calls Try.prog 17 #[.pointer (some ⟨g, 0, none⟩), .slice A m c] w fun e w' => e = .returned (triple x0 x1 x2 x3 x4) ∧ Below w.heap.size w w') := by
  by_cases h1 : m < 52
  · exact ⟨0, 0, 0, 0, 5, fun g w hJ hr => open_short g s gen keep A m c bs w hJ hr h1, fun g w hJ hr => ropen_short g s gen keep A m c bs w hJ hr h1⟩
  · by_cases h2 : 52 < m
    · exact ⟨0, 0, 0, 0, 6, fun g w hJ hr => open_long g s gen keep A m c bs w hJ hr h2, fun g w hJ hr => ropen_long g s gen keep A m c bs w hJ hr h2⟩
    · obtain rfl : m = 52 := by omega
      obtain ⟨a, b, c', d, e, he⟩ := openRes_form s gen keep bs
      refine ⟨a, b, c', d, e, fun g w hJ hr => ?_, fun g w hJ hr => ?_⟩
      · rw [← he]
        exact open_52 g s gen keep A c bs w hJ hr hG hK
      · rw [← he]
        exact ropen_52 g s gen keep A c bs w hJ hr hG.2 hK.2

set_option maxHeartbeats 1000000 in
theorem cookieOpens_any (s keep turns : Int) (A : Option Addr) (m c : Nat) (bs : List UInt8) (w : World) (hs : 0 ≤ s ∧ s ≤ 18446744073709551615) (hkb : -9223372036854775808 ≤ keep ∧ keep ≤ 9223372036854775807) (htb : 0 ≤ turns ∧ turns ≤ 255) (hr : RB w A m c bs) :
    Calls Try.prog 4 #[.int .u64 s, .int .i64 keep, .int .u8 turns, .slice A m c] w fun e w' => e = .returned (.bool true) ∧ Below w.heap.size w w' := by
  obtain ⟨T, rfl⟩ := Int.eq_ofNat_of_zero_le htb.1
  have hT1 : T ≤ 255 := by omega
  have hcap := hr.cap
  have hmx := hr.max
  by_cases h300 : 300 < m
  · have h3 : (300 : Int) < (m : Int) := by omega
    go_enter Try.func4, Try.ntmps4
    go_wp2_with (go_at_call 15; refine (awake44 _).mono ?_; rintro e w2 ⟨rfl, hB2⟩)
    go_ret
    exact ⟨rfl, hB2⟩
  · have h3 : ¬ (300 : Int) < (m : Int) := by omega
    by_cases hkp : 1 ≤ keep ∧ keep ≤ 8
    · obtain ⟨x0, x1, x2, x3, x4, hp, hq⟩ := both_open s (1 + T) keep.toNat A m c bs ⟨by omega, by omega⟩ ⟨by omega, by omega⟩
      have z0 := key_eql_same x0 x1
      have z1 := key_eql_same x2 x3
      have Hp := hide hp
      have Hq := hide hq
      clear hp hq
      go_enter Try.func4, Try.ntmps4
      go_wp2_with fail
      refine (turned_ok s keep T w hkp.1 hkp.2 hT1).mono ?_
      rintro e w1 ⟨rfl, hJ1, hK1, hB1⟩
      have hr1 := hr.below hB1
      go_wp2_with fail
      refine (Hp.out w.heap.size w1 hJ1 hr1).mono ?_
      rintro e w2 ⟨rfl, hB2⟩
      unfold triple
      have hX := two_keys w2 (.int .u64 x0) (.int .u64 x1) (.int .u64 x2) (.int .u64 x3)
      have hK3 : RefAt _ (w.heap.size + 1) s (1 + T) keep.toNat := Blk.below' (Blk.below' hK1 hB2) hX.2.2
      have hr3 := (hr1.below hB2).below hX.2.2
      have hW2 := below_step hB1 hB2 hB1.size
      have hW3 := below_step hW2 hX.2.2 hW2.size
      have ka := hX.1
      have kb := hX.2.1
      clear hJ1 hK1 hB1 hr1 hB2 hW2 hX hr
      go_wp2_with fail
      refine (Hq.out (w.heap.size + 1) _ hK3 hr3).mono ?_
      rintro e w4 ⟨rfl, hB4⟩
      unfold triple
      have hX := two_keys w4 (.int .u64 x0) (.int .u64 x1) (.int .u64 x2) (.int .u64 x3)
      have ka := (ka.below' hB4).below' hX.2.2
      have kb := (kb.below' hB4).below' hX.2.2
      have hW4 := below_step hW3 hB4 hW3.size
      have hW5 := below_step hW4 hX.2.2 hW4.size
      have k0 := ka.cell 0
      have k1 := ka.cell 1
      have k2 := kb.cell 0
      have k3 := kb.cell 1
      have l0 := hX.1.cell 0
      have l1 := hX.1.cell 1
      have l2 := hX.2.1.cell 0
      have l3 := hX.2.1.cell 1
      simp only [List.getElem?_cons_zero, List.getElem?_cons_succ] at k0 k1 k2 k3 l0 l1 l2 l3
      clear hK3 hr3 hB4 hX hW3 hW4 ka kb
      go_wp2_with (go_at_call 15; refine (awake44 _).mono ?_; rintro e w6 ⟨rfl, hB6⟩)
      go_ret
      exact ⟨rfl, below_step hW5 hB6 hW5.size⟩
    · have hno' : keep < 1 ∨ 8 < keep := by omega
      have z0 := key_eql_same 0 0
      go_enter Try.func4, Try.ntmps4
      go_wp2_with fail
      refine (turned_nil s keep T w hno' hT1).mono ?_
      rintro e w1 ⟨rfl, rfl⟩
      go_wp2_with fail
      refine (open_nil A m c bs w hr).mono ?_
      rintro e w2 ⟨rfl, hB2⟩
      unfold zero2
      have hX := two_keys w2 (.int .u64 0) (.int .u64 0) (.int .u64 0) (.int .u64 0)
      have hr3 := (hr.below hB2).below hX.2.2
      have hW3 := below_step hB2 hX.2.2 hB2.size
      have ka := hX.1
      have kb := hX.2.1
      clear hB2 hX hr
      go_wp2_with fail
      refine (ropen_nil A m c bs _ hr3).mono ?_
      rintro e w4 ⟨rfl, hB4⟩
      unfold zero2
      have hX := two_keys w4 (.int .u64 0) (.int .u64 0) (.int .u64 0) (.int .u64 0)
      have ka := (ka.below' hB4).below' hX.2.2
      have kb := (kb.below' hB4).below' hX.2.2
      have hW4 := below_step hW3 hB4 hW3.size
      have hW5 := below_step hW4 hX.2.2 hW4.size
      have k0 := ka.cell 0
      have k1 := ka.cell 1
      have k2 := kb.cell 0
      have k3 := kb.cell 1
      have l0 := hX.1.cell 0
      have l1 := hX.1.cell 1
      have l2 := hX.2.1.cell 0
      have l3 := hX.2.1.cell 1
      simp only [List.getElem?_cons_zero, List.getElem?_cons_succ] at k0 k1 k2 k3 l0 l1 l2 l3
      clear hr3 hB4 hX hW3 hW4 ka kb
      go_wp2_with (go_at_call 15; refine (awake44 _).mono ?_; rintro e w6 ⟨rfl, hB6⟩)
      go_ret
      exact ⟨rfl, below_step hW5 hB6 hW5.size⟩
end Go.Proofs.Ytdgjbaeflbggpaa
