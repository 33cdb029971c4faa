/- CookieTags.
  SEATS: cookie -/
import Derived.Test.YtdgjbaeflbggpaaAwake44
import Derived.Test.YtdgjbaeflbggpaaTags44
import Derived.Test.YtdgjbaeflbggpaaClone
import Derived.Deep.DeepCutAuto
namespace Go.Proofs.Ytdgjbaeflbggpaa
open Go.RowKit
set_option linter.unusedVariables false

theorem xor_tag (x : UInt8) (C k : Nat) : bits .xor .u8 (x.toNat : Int) ((C : Int) / 2 ^ (8 * k) % 256) = ((x ^^^ UInt8.ofNat (C / 2 ^ (8 * k))).toNat : Int) := by
  have h : (C : Int) / 2 ^ (8 * k) % 256 = ((C / 2 ^ (8 * k) % 256 : Nat) : Int) := by simp
  rw [h, xor_u8 _ _ (Nat.mod_lt _ (by omega))]
  congr 3
  apply UInt8.toNat.inj
  simp

set_option maxHeartbeats 1000000 in
theorem cookieTags_any (s keep a b c d nonce change : Int) (w : World) (hs : 0 ≤ s ∧ s ≤ 18446744073709551615) (hkb : -9223372036854775808 ≤ keep ∧ keep ≤ 9223372036854775807) (ha : 0 ≤ a ∧ a ≤ 18446744073709551615) (hb : 0 ≤ b ∧ b ≤ 18446744073709551615) (hc : 0 ≤ c ∧ c ≤ 18446744073709551615) (hd : 0 ≤ d ∧ d ≤ 18446744073709551615) (hno : 0 ≤ nonce ∧ nonce ≤ 18446744073709551615) (hch : 0 ≤ change ∧ change ≤ 18446744073709551615) :
    Calls Try.prog 8 #[.int .u64 s, .int .i64 keep, .agg #[.int .u64 a, .int .u64 b], .agg #[.int .u64 c, .int .u64 d], .int .u64 nonce, .int .u64 change] w fun e w' => e = .returned (.bool true) ∧ Below w.heap.size w w' := by
  have hT := two_keys w (.int .u64 a) (.int .u64 b) (.int .u64 c) (.int .u64 d)
  by_cases hkp : 1 ≤ keep ∧ keep ≤ 8
  · by_cases h0 : change = 0
    · subst h0
      go_enter Try.func8, Try.ntmps8
      go_wp2_with fail
      refine (new_ok s keep _ hkp.1 hkp.2).mono ?_
      rintro e w1 ⟨rfl, hJ1, hB1, hz1⟩
      have hW1 := below_step hT.2.2 hB1 hT.2.2.size
      clear hT hB1
      go_wp2_with (go_at_call 15; refine (awake44 _).mono ?_; rintro e w2 ⟨rfl, hB2⟩)
      go_ret
      exact ⟨rfl, below_step hW1 hB2 hW1.size⟩
    · have hne : (change == 0) = false := by simpa using h0
      obtain ⟨C, rfl⟩ := Int.eq_ofNat_of_zero_le hch.1
      have hC0 : C ≠ 0 := by omega
      have hC1 : C ≤ 18446744073709551615 := by omega
      go_enter Try.func8, Try.ntmps8
      go_wp2_with fail
      refine (new_ok s keep _ hkp.1 hkp.2).mono ?_
      rintro e w1 ⟨rfl, hJ1, hB1, hz1⟩
      rw [size_two] at hJ1 hz1
      have hW1 := below_step hT.2.2 hB1 hT.2.2.size
      have k0 := (hT.1.below' hB1).cell 0
      have k1 := (hT.1.below' hB1).cell 1
      have k2 := (hT.2.1.below' hB1).cell 0
      have k3 := (hT.2.1.below' hB1).cell 1
      simp only [List.getElem?_cons_zero, List.getElem?_cons_succ] at k0 k1 k2 k3
      obtain ⟨K, hK⟩ : ∃ K, K = keep.toNat := ⟨_, rfl⟩
      have hK1 : 1 ≤ K ∧ K ≤ 8 := by omega
      obtain ⟨hK1, hK8⟩ := hK1
      rw [← hK] at hJ1
      clear hT hB1 hK
      go_wp2_with fail
      refine (seal_own (w.heap.size + 1 + 1) s 1 K a b c d nonce w1 hJ1 (by omega) hno).mono ?_
      rintro e w2 ⟨A, n, c', rfl, hown, hB2⟩
      obtain rfl : n = 52 := by rw [← hown.len, cookie_len]
      obtain ⟨g, cs, rfl, hg, hblk, ht, hcc, hcm, _⟩ := hown.blk (by omega)
      have hr2 := hown.rb
      have hJ2 : JarAt w2 (w.heap.size + 1 + 1) s 1 K := Blk.below' hJ1 hB2
      have hW2 := below_step hW1 hB2 hW1.size
      have hgw : w.heap.size + 1 + 1 + 1 ≤ g := by omega
      clear hJ1 hown hB2 hW1 k0 k1 k2 k3 hg
      have Hbs := hide (⟨cookie_len s 1 nonce (four a b c d), open_changed s nonce (four a b c d) C K hK1 hC0 hC1, open_later s nonce (four a b c d) K⟩ : _ ∧ _ ∧ _)
      generalize cookieOf s 1 nonce (four a b c d) = bs at *
      go_wp2_with fail
      refine (clone_any ⟨g, 0, none⟩ 52 c' bs w2 hr2 (by omega)).mono ?_
      rintro e w3 ⟨A3, n3, c3, rfl, hown3, hB3⟩
      obtain rfl : n3 = 52 := by rw [← hown3.len, Hbs.out.1]
      obtain ⟨g3, cs3, rfl, hg3, hblk3, ht3, hcc3, hcm3, _⟩ := hown3.blk (by omega)
      have hgl := hblk.lt
      have hb3 := hblk.below' hB3
      have hJ3 : JarAt w3 (w.heap.size + 1 + 1) s 1 K := Blk.below' hJ2 hB3
      have hW3 := below_step hW2 hB3 hW2.size
      have hg3g : g ≠ g3 := by omega
      have hg3j : w.heap.size + 1 + 1 ≠ g3 := by omega
      have hgj : w.heap.size + 1 + 1 ≠ g := by omega
      have hg3w : w.heap.size ≤ g3 := by omega
      have hgw' : w.heap.size ≤ g := by omega
      clear hown3 hB3 hW2 hJ2 hblk hr2 hg3 hgl hgw
      have hc0 := hblk3.cell 3
      rw [take_get ht3 (by rw [Hbs.out.1]; omega)] at hc0
      have hf0 := hblk3.frozen 3
      have hL4 := hblk3.set_ 3 (.int .u8 2)
      have ht4 : (cs3.set 3 (.int .u8 2)).take 52 = BV (bs.set 3 2) := take_set (v := 2) ht3
      have hb4 := hb3.far (p := ⟨g3, 3, none⟩) hg3g (.int .u8 2)
      have hJ4 : JarAt _ (w.heap.size + 1 + 1) s 1 K := Blk.far (p := ⟨g3, 3, none⟩) hJ3 hg3j (.int .u8 2)
      have hW4 := hW3.setCell (p := ⟨g3, 3, none⟩) hg3w (.int .u8 2)
      have ht' : cs.take 52 = BV (changed bs C 0) := by rw [changed_zero]; exact ht
      go_wp2
      clear hc0 hf0 hb3 hJ3 hW3 ht
      go_loopw [45] (fun iv wr => ∃ (k : Nat) (cs : List Value), k ≤ 8 ∧ iv = .int .i64 k ∧ Blk wr g 5 cs ∧ cs.take 52 = BV (changed bs C k) ∧ Blk wr g3 5 (cs3.set 3 (.int .u8 2)) ∧ JarAt wr (w.heap.size + 1 + 1) s 1 K ∧ Below w.heap.size w wr) (fun iv _ => 8 - (intOf iv).toNat)
      case atStart => exact ⟨0, cs, by omega, rfl, hb4, ht', hL4, hJ4, hW4⟩
      case round =>
        clear hb4 hL4 hJ4 hW4 ht' hblk3
        obtain ⟨k, cs, hk, rfl, hb, ht, hL, hJ, hW⟩ := hrel
        by_cases hlt : k < 8
        · have hkI : (k : Int) < 8 := by omega
          have hc0 := hb.cell (44 + k)
          rw [take_get ht (by rw [changed_length, Hbs.out.1]; omega), changed_nth bs C k (by rw [Hbs.out.1]; omega)] at hc0
          have hf0 := hb.frozen (44 + k)
          go_wp2
          go_region
          rw [xor_tag]
          have hbs := hb.set_ (44 + k) (.int .u8 ((nth bs (44 + k) ^^^ UInt8.ofNat (C / 2 ^ (8 * k))).toNat : Int))
          have hts := take_set (i := 44 + k) (v := nth bs (44 + k) ^^^ UInt8.ofNat (C / 2 ^ (8 * k))) ht
          rw [changed_set bs C k (by rw [Hbs.out.1]; omega)] at hts
          have hLs := hL.far (p := ⟨g, 44 + k, none⟩) (Ne.symm hg3g) (.int .u8 ((nth bs (44 + k) ^^^ UInt8.ofNat (C / 2 ^ (8 * k))).toNat : Int))
          have hJs : JarAt _ (w.heap.size + 1 + 1) s 1 K := Blk.far (p := ⟨g, 44 + k, none⟩) hJ hgj (.int .u8 ((nth bs (44 + k) ^^^ UInt8.ofNat (C / 2 ^ (8 * k))).toNat : Int))
          have hWs := hW.setCell (p := ⟨g, 44 + k, none⟩) hgw' (.int .u8 ((nth bs (44 + k) ^^^ UInt8.ofNat (C / 2 ^ (8 * k))).toNat : Int))
          go_wp2
          exact ⟨⟨k + 1, _, by omega, by go_num, hbs, hts, hLs, hJs, hWs.drew⟩, by simp [intOf]; omega⟩
        · obtain rfl : k = 8 := by omega
          have hr := hb.rbt ht (by rw [changed_length, Hbs.out.1]) hcc hcm
          have hrl := hL.rbt ht4 (by rw [List.length_set, Hbs.out.1]) hcc3 hcm3
          go_wp2_with fail
          refine (open_52 (w.heap.size + 1 + 1) s 1 K (some ⟨g, 0, none⟩) c' _ wr hJ hr (by omega) (by omega)).mono ?_
          rintro e w5 ⟨rfl, hB5⟩
          rw [Hbs.out.2.1]
          unfold zero2
          have hX := (two_keys w5 (.int .u64 0) (.int .u64 0) (.int .u64 0) (.int .u64 0)).2.2
          have hr6 := (hrl.below hB5).below hX
          have hJ6 : JarAt _ (w.heap.size + 1 + 1) s 1 K := Blk.below' (Blk.below' hJ hB5) hX
          have hW5 := below_step hW hB5 hW.size
          have hW6 := below_step hW5 hX hW5.size
          clear hb hr hL hrl hB5 hX hJ hW hW5
          go_wp2_with fail
          refine (open_52 (w.heap.size + 1 + 1) s 1 K (some ⟨g3, 0, none⟩) c3 _ _ hJ6 hr6 (by omega) (by omega)).mono ?_
          rintro e w7 ⟨rfl, hB7⟩
          rw [Hbs.out.2.2]
          unfold zero2
          have hX := (two_keys w7 (.int .u64 0) (.int .u64 0) (.int .u64 0) (.int .u64 0)).2.2
          have hW7 := below_step hW6 hB7 hW6.size
          have hW8 := below_step hW7 hX hW7.size
          clear hJ6 hr6 hB7 hX hW6 hW7
          go_wp2_with (go_at_call 15; refine (awake44 _).mono ?_; rintro e w9 ⟨rfl, hB9⟩)
          go_ret
          exact ⟨rfl, below_step hW8 hB9 hW8.size⟩
  · have hno' : keep < 1 ∨ 8 < keep := by omega
    go_enter Try.func8, Try.ntmps8
    go_wp2_with fail
    refine (new_nil s keep _ hno').mono ?_
    rintro e w1 ⟨rfl, rfl⟩
    go_wp2_with (go_at_call 15; refine (awake44 _).mono ?_; rintro e w2 ⟨rfl, hB2⟩)
    go_ret
    exact ⟨rfl, below_step hT.2.2 hB2 hT.2.2.size⟩
end Go.Proofs.Ytdgjbaeflbggpaa
