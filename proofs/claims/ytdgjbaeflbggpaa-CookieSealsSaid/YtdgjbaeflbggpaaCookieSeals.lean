/- CookieSeals.
  SEATS: cookie -/
import Derived.Test.YtdgjbaeflbggpaaTurned
import Derived.BigQuiet
namespace Go.Proofs.Ytdgjbaeflbggpaa
open Go.RowKit
set_option linter.unusedVariables false

set_option maxHeartbeats 2000000 in
theorem cookieSeals_any (s keep turns a b c d nonce : Int) (w : World) (hs : 0 ≤ s ∧ s ≤ 18446744073709551615) (hkb : -9223372036854775808 ≤ keep ∧ keep ≤ 9223372036854775807) (htb : 0 ≤ turns ∧ turns ≤ 255) (ha : 0 ≤ a ∧ a ≤ 18446744073709551615) (hb : 0 ≤ b ∧ b ≤ 18446744073709551615) (hc : 0 ≤ c ∧ c ≤ 18446744073709551615) (hd : 0 ≤ d ∧ d ≤ 18446744073709551615) (hno : 0 ≤ nonce ∧ nonce ≤ 18446744073709551615) :
    Calls Try.prog 3 #[.int .u64 s, .int .i64 keep, .int .u8 turns, .agg #[.int .u64 a, .int .u64 b], .agg #[.int .u64 c, .int .u64 d], .int .u64 nonce] w fun e w' => e = .returned (.bool true) ∧ Below w.heap.size w w' := by
  have hT := two_keys w (.int .u64 a) (.int .u64 b) (.int .u64 c) (.int .u64 d)
  obtain ⟨T, rfl⟩ := Int.eq_ofNat_of_zero_le htb.1
  have hT1 : T ≤ 255 := by omega
  by_cases hkp : 1 ≤ keep ∧ keep ≤ 8
  · obtain ⟨G, hG⟩ : ∃ G, G = 1 + T := ⟨_, rfl⟩
    have hGm : G ≤ 2147483647 := by omega
    go_enter Try.func3, Try.ntmps3
    go_wp2_with fail
    refine (turned_ok s keep T _ hkp.1 hkp.2 hT1).mono ?_
    rintro e w1 ⟨rfl, hJ1, hK1, hB1⟩
    rw [← hG] at hJ1 hK1
    rw [size_two] at hJ1 hK1 ⊢
    have hW1 := below_step hT.2.2 hB1 hT.2.2.size
    have k0 := (hT.1.below' hB1).cell 0
    have k1 := (hT.1.below' hB1).cell 1
    have k2 := (hT.2.1.below' hB1).cell 0
    have k3 := (hT.2.1.below' hB1).cell 1
    simp only [List.getElem?_cons_zero, List.getElem?_cons_succ] at k0 k1 k2 k3
    clear hT hB1 hG
    have hJd : JarAt w1.drew (w.heap.size + 1 + 1) s G keep.toNat := hJ1
    have hKd : RefAt w1.drew (w.heap.size + 1 + 1 + 1) s G keep.toNat := hK1
    go_wp2
    go_region_held3 (fun w' => w'.cell? ⟨w.heap.size, 0, none⟩ = some (.int .u64 a) ∧ w'.cell? ⟨w.heap.size, 1, none⟩ = some (.int .u64 b) ∧ w'.cell? ⟨w.heap.size + 1, 0, none⟩ = some (.int .u64 c) ∧ w'.cell? ⟨w.heap.size + 1, 1, none⟩ = some (.int .u64 d))
      (first | exact ⟨k0, k1, k2, k3⟩ | exact ⟨m0, m1, m2, m3⟩ | exact ⟨n0, n1, n2, n3⟩ | exact ⟨o0, o1, o2, o3⟩)
      (first
        | (go_at_call 11; refine (seal_any (w.heap.size + 1 + 1) s G keep.toNat a b c d nonce w1.drew hJd hGm hno).mono ?_; rintro e w3 ⟨A3, q3, c3, rfl, hr3, hB3⟩; have m0 := cell_keep hB3 k0; have m1 := cell_keep hB3 k1; have m2 := cell_keep hB3 k2; have m3 := cell_keep hB3 k3)
        | (go_at_call 12; refine (refSeal_any (w.heap.size + 1 + 1 + 1) s G keep.toNat a b c d nonce w3 (Blk.below' hKd hB3) hGm hno).mono ?_; rintro e w4 ⟨A4, q4, c4, rfl, hr4, hB4⟩; have n0 := cell_keep hB4 m0; have n1 := cell_keep hB4 m1; have n2 := cell_keep hB4 m2; have n3 := cell_keep hB4 m3)
        | (go_at_call 10; refine (equal_any A3 q3 c3 _ A4 q4 c4 _ w4 (hr3.below hB4) hr4).mono ?_; rintro e w5 ⟨rfl, rfl⟩)
        | (go_at_call 13; refine (gen_any (w.heap.size + 1 + 1) s G keep.toNat w4 (Blk.below' (Blk.below' hJd hB3) hB4)).mono ?_; rintro e w6 ⟨rfl, rfl⟩)
        | (go_at_call 14; refine (refGen_any (w.heap.size + 1 + 1 + 1) s G keep.toNat w4 (Blk.below' (Blk.below' hKd hB3) hB4)).mono ?_; rintro e w6 ⟨rfl, rfl⟩)
        | (go_at_call 15; refine (awake44 _).mono ?_; rintro e w9 ⟨rfl, hB9⟩; have o0 := cell_keep hB9 n0; have o1 := cell_keep hB9 n1; have o2 := cell_keep hB9 n2; have o3 := cell_keep hB9 n3))
    have hW3 := below_step hW1.drew hB3 hW1.size
    have hW4 := below_step hW3 hB4 hW3.size
    go_wp2
    go_ret
    exact ⟨rfl, below_step hW4 hB9 hW4.size⟩
  · have hno' : keep < 1 ∨ 8 < keep := by omega
    go_enter Try.func3, Try.ntmps3
    go_wp2_with fail
    refine (turned_nil s keep T _ hno' hT1).mono ?_
    rintro e w1 ⟨rfl, rfl⟩
    have hW1 := hT.2.2
    have k0 := hT.1.cell 0
    have k1 := hT.1.cell 1
    have k2 := hT.2.1.cell 0
    have k3 := hT.2.1.cell 1
    simp only [List.getElem?_cons_zero, List.getElem?_cons_succ] at k0 k1 k2 k3
    clear hT
    generalize (w.alloc (.cells #[.int .u64 a, .int .u64 b] 24)).alloc (.cells #[.int .u64 c, .int .u64 d] 24) = w1 at *
    go_wp2
    go_region_held3 (fun w' => w'.cell? ⟨w.heap.size, 0, none⟩ = some (.int .u64 a) ∧ w'.cell? ⟨w.heap.size, 1, none⟩ = some (.int .u64 b) ∧ w'.cell? ⟨w.heap.size + 1, 0, none⟩ = some (.int .u64 c) ∧ w'.cell? ⟨w.heap.size + 1, 1, none⟩ = some (.int .u64 d))
      (first | exact ⟨k0, k1, k2, k3⟩ | exact ⟨m0, m1, m2, m3⟩ | exact ⟨n0, n1, n2, n3⟩ | exact ⟨o0, o1, o2, o3⟩)
      (first
        | (go_at_call 11; refine (seal_nil _ _ _ a b c d rfl rfl w1.drew).mono ?_; rintro e w3 ⟨rfl, hB3⟩; have m0 := cell_keep hB3 k0; have m1 := cell_keep hB3 k1; have m2 := cell_keep hB3 k2; have m3 := cell_keep hB3 k3)
        | (go_at_call 12; refine (refSeal_nil _ _ _ a b c d rfl rfl w3).mono ?_; rintro e w4 ⟨rfl, hB4⟩; have n0 := cell_keep hB4 m0; have n1 := cell_keep hB4 m1; have n2 := cell_keep hB4 m2; have n3 := cell_keep hB4 m3)
        | (go_at_call 10; refine (equal_any none 0 0 _ none 0 0 _ w4 (RB.nil _) (RB.nil _)).mono ?_; rintro e w5 ⟨rfl, rfl⟩)
        | (go_at_call 13; refine (gen_nil w4).mono ?_; rintro e w6 ⟨rfl, rfl⟩)
        | (go_at_call 14; refine (refGen_nil w4).mono ?_; rintro e w6 ⟨rfl, rfl⟩)
        | (go_at_call 15; refine (awake44 _).mono ?_; rintro e w9 ⟨rfl, hB9⟩; have o0 := cell_keep hB9 n0; have o1 := cell_keep hB9 n1; have o2 := cell_keep hB9 n2; have o3 := cell_keep hB9 n3))
    have hW3 := below_step hW1.drew hB3 hW1.size
    have hW4 := below_step hW3 hB4 hW3.size
    go_wp2
    go_ret
    exact ⟨rfl, below_step hW4 hB9 hW4.size⟩
end Go.Proofs.Ytdgjbaeflbggpaa
