/- The reference's Open.
  SEATS: cookie guard -/
import Derived.Test.YtdgjbaeflbggpaaCOpen
import Derived.Test.YtdgjbaeflbggpaaJarR
import Derived.Test.YtdgjbaeflbggpaaRef02
namespace Go.Proofs.Ytdgjbaeflbggpaa
open Go.RowKit
set_option linter.unusedVariables false

theorem ropen_nil (A : Option Addr) (m c : Nat) (bs : List UInt8) (w : World) (h : RB w A m c bs) :
    Calls Try.prog 17 #[.pointer none, .slice A m c] w fun e w' => e = .returned (.tuple #[zero2, zero2, .int .i64 1]) ∧ Below w.heap.size w w' := by
  go_enter Try.func17, Try.ntmps17
  go_wp2
  refine bodyPost_ret (v := .tuple #[zero2, zero2, .int .i64 1]) (by simp [results, Try.results17, go_sem, zero2]) rfl ⟨rfl, ?_⟩
  exact ((Below.refl _ _).alloc (Nat.le_refl _) _).alloc (by simp) _

theorem ropen_short (g : Nat) (s : Int) (gen keep : Nat) (A : Option Addr) (m c : Nat) (bs : List UInt8) (w : World) (hJ : RefAt w g s gen keep) (h : RB w A m c bs) (hm : m < 52) :
    Calls Try.prog 17 #[.pointer (some ⟨g, 0, none⟩), .slice A m c] w fun e w' => e = .returned (.tuple #[zero2, zero2, .int .i64 5]) ∧ Below w.heap.size w w' := by
  go_enter Try.func17, Try.ntmps17
  go_wp2
  refine bodyPost_ret (v := .tuple #[zero2, zero2, .int .i64 5]) (by simp [results, Try.results17, go_sem, zero2]) rfl ⟨rfl, ?_⟩
  exact ((Below.refl _ _).alloc (Nat.le_refl _) _).alloc (by simp) _

theorem ropen_long (g : Nat) (s : Int) (gen keep : Nat) (A : Option Addr) (m c : Nat) (bs : List UInt8) (w : World) (hJ : RefAt w g s gen keep) (h : RB w A m c bs) (hm : 52 < m) :
    Calls Try.prog 17 #[.pointer (some ⟨g, 0, none⟩), .slice A m c] w fun e w' => e = .returned (.tuple #[zero2, zero2, .int .i64 6]) ∧ Below w.heap.size w w' := by
  have hc := h.cap
  have hx := h.max
  go_enter Try.func17, Try.ntmps17
  go_wp2
  refine bodyPost_ret (v := .tuple #[zero2, zero2, .int .i64 6]) (by simp [results, Try.results17, go_sem, zero2]) rfl ⟨rfl, ?_⟩
  exact ((Below.refl _ _).alloc (Nat.le_refl _) _).alloc (by simp) _

set_option maxHeartbeats 4000000 in
set_option maxRecDepth 100000 in
theorem ropen_52 (g : Nat) (s : Int) (gen keep : Nat) (A : Option Addr) (c : Nat) (bs : List UInt8) (w : World) (hJ : RefAt w g s gen keep) (h : RB w A 52 c bs) (hG : gen ≤ 2147483647) (hK : keep ≤ 8) :
    Calls Try.prog 17 #[.pointer (some ⟨g, 0, none⟩), .slice A 52 c] w fun e w' => e = .returned (openRes s gen keep bs) ∧ Below w.heap.size w w' := by
  have hc := h.cap
  have hx := h.max
  have H2 := two_new w
  have hJ0 : RefAt ((w.alloc (.cells #[.int .u64 0, .int .u64 0] 24)).alloc (.cells #[.int .u64 0, .int .u64 0] 24)) g s gen keep := (hJ.alloc _).alloc _
  have hr0 := (h.alloc (.cells #[.int .u64 0, .int .u64 0] 24)).alloc (.cells #[.int .u64 0, .int .u64 0] 24)
  have hl : bs.length = 52 := h.len
  have Hl := hide hl
  clear hl
  go_enter Try.func17, Try.ntmps17
  go_wp2_with fail
  refine (get02_any A 52 c bs 0 4 _ hr0 (by omega) (by omega) (by omega) (by omega)).mono ?_
  rintro e w1 ⟨rfl, rfl⟩
  have hsz : ((w.alloc (.cells #[.int .u64 0, .int .u64 0] 24)).alloc (.cells #[.int .u64 0, .int .u64 0] 24)).heap.size = w.heap.size + 2 := by simp
  generalize (w.alloc (.cells #[.int .u64 0, .int .u64 0] 24)).alloc (.cells #[.int .u64 0, .int .u64 0] 24) = wA at *
  have Hsz := hide hsz
  clear hsz hJ h
  rw [show (4 : Int).toNat = 4 from rfl, show (0 : Int).toNat = 0 from rfl]
  have hN : ofBe (sub bs 0 4) < 4294967296 := Nat.lt_of_lt_of_le (ofBe_lt _) (by rw [sub_length bs 0 4 (by rw [Hl.out]; omega)]; omega)
  have HgN := hide (show ofBe (sub bs 0 4) = ckGen bs from rfl)
  rw [HgN.out] at hN ⊢
  have j1 := hJ0.cell 1
  have j2 := hJ0.cell 2
  simp only [List.getElem?_cons_zero, List.getElem?_cons_succ] at j1 j2
  obtain ⟨N, hNN⟩ : ∃ N, N = ckGen bs := ⟨_, rfl⟩
  have HN := hide hNN
  rw [← hNN] at hN ⊢
  clear hNN
  have p1 : IntKind.i64.wrap ((gen : Int) - keep) = (gen : Int) - keep := IntWalk.i64_in _ (by omega)
  obtain ⟨z, hz⟩ : ∃ z : Int, z = (N : Int) := ⟨_, rfl⟩
  have Hz := hide hz
  have p3 : IntKind.i64.wrap z = z := IntWalk.i64_in _ (by omega)
  have hz0 : 0 ≤ z ∧ z < 4294967296 := by omega
  rw [← hz]
  clear hz
  have Hk := fun nq : Nat => hide (four_k (W := wA.drewN nq) ⟨H2.1.c0, H2.1.c1, H2.1.f0, H2.1.f1⟩ ⟨H2.2.1.c0, H2.2.1.c1, H2.2.1.f0, H2.2.1.f1⟩ (Nat.ne_of_lt (Nat.lt_succ_self _)) (.int .u64 0) (.int .u64 0) (.int .u64 0) (.int .u64 0))
  go_upto_region 9 with (fail)
  go_cut [61] (fun t wx => t = .bool (decide (N < 1 ∨ gen < N ∨ N + keep ≤ gen)) ∧ ∃ nq, wx = wA.drewN nq)
  case first =>
    clear Hk H2 hJ0 hr0
    have hz := Hz.out
    by_cases h1 : N < 1
    · have hd1 : z < 1 := by omega
      have Hb := hide (show decide (N < 1 ∨ gen < N ∨ N + keep ≤ gen) = true from decide_eq_true (by omega))
      clear h1 hz Hz
      go_quiet (fail)
      go_wp2_with fail
      go_meet
      exact ⟨congrArg Value.bool Hb.out.symm, _, rfl⟩
    · have hd1 : decide (z < 1) = false := by simp; omega
      by_cases h2 : gen < N
      · have hd2 : (gen : Int) < z := by omega
        have Hb := hide (show decide (N < 1 ∨ gen < N ∨ N + keep ≤ gen) = true from decide_eq_true (by omega))
        clear h1 h2 hz Hz
        go_quiet (fail)
        go_wp2_with fail
        go_meet
        exact ⟨congrArg Value.bool Hb.out.symm, _, rfl⟩
      · have hd2 : decide ((gen : Int) < z) = false := by simp; omega
        by_cases h3 : N + keep ≤ gen
        · have hd3 : z ≤ (gen : Int) - keep := by omega
          have Hb := hide (show decide (N < 1 ∨ gen < N ∨ N + keep ≤ gen) = true from decide_eq_true (by omega))
          clear h1 h2 h3 hz Hz
          go_quiet (fail)
          go_wp2_with fail
          go_meet
          exact ⟨congrArg Value.bool Hb.out.symm, _, rfl⟩
        · have hd3 : decide (z ≤ (gen : Int) - keep) = false := by simp; omega
          have Hb := hide (show decide (N < 1 ∨ gen < N ∨ N + keep ≤ gen) = false from decide_eq_false (by omega))
          clear h1 h2 h3 hz Hz
          go_quiet (fail)
          go_wp2_with fail
          go_meet
          exact ⟨congrArg Value.bool Hb.out.symm, _, rfl⟩
  case rest =>
    obtain ⟨rfl, nq, rfl⟩ := hcut
    have hz := Hz.out
    clear Hz hz0 p3
    subst hz
    by_cases hbad : N < 1 ∨ gen < N ∨ N + keep ≤ gen
    · have Hres := hide (show openRes s gen keep bs = .tuple #[zero2, zero2, .int .i64 17] from if_pos (by rw [← HN.out]; exact hbad))
      rw [decide_eq_true hbad]
      have u0 := H2.1.c0
      have u1 := H2.1.c1
      have u2 := H2.1.f0
      have u3 := H2.1.f1
      have v0 := H2.2.1.c0
      have v1 := H2.2.1.c1
      have v2 := H2.2.1.f0
      have v3 := H2.2.1.f1
      go_wp2
      refine bodyPost_ret (v := .tuple #[zero2, zero2, .int .i64 17]) (by simp [results, Try.results17, go_sem, zero2, (Hk nq).out.1, (Hk nq).out.2.1, (Hk nq).out.2.2.1, (Hk nq).out.2.2.2]) rfl ⟨by rw [Hres.out], ?_⟩
      exact four_below (below_dn H2.2.2 nq) _ _ _ _
    · have Hin := hide (show ¬ (ckGen bs < 1 ∨ gen < ckGen bs ∨ ckGen bs + keep ≤ gen) by rw [← HN.out]; exact hbad)
      have hNG : N ≤ 2147483647 := by omega
      rw [decide_eq_false hbad]
      clear hbad Hk
      have hB1 : Below wA.heap.size wA (wA.drewN nq) := below_drewN wA nq
      generalize wA.drewN nq = w1 at *
      go_wp2_with fail
      refine (get02_any A 52 c bs 44 8 w1 (hr0.below hB1) (by omega) (by omega) (by omega) (by omega)).mono ?_
      rintro e w2 ⟨rfl, rfl⟩
      rw [show (8 : Int).toNat = 8 from rfl, show (44 : Int).toNat = 44 from rfl]
      have Htg := hide (show ((ofBe (sub bs 44 8) : Nat) : Int) = ckTag bs from rfl)
      rw [Htg.out]
      have hcI : (44 : Int) ≤ (c : Int) := by omega
      have hcJ : (c : Int) ≤ 9223372036854775807 := by omega
      go_upto_region 12 with (fail)
      go_cut [75] (fun t wx => t = .bool (ckTag bs != mac (dkey s N tagLb 1) (dkey s N tagLb 2) (bs.take 44)) ∧ Below wA.heap.size wA wx)
      case first =>
        go_wp2_with fail
        refine (tagOf_any g s gen keep N A 44 c (bs.take 44) w1 (hJ0.below' hB1) hNG ((hr0.below hB1).pre 44 (by omega)) (by omega)).mono ?_
        rintro e w2 ⟨rfl, hB2⟩
        have hB2' := below_step hB1 hB2 hB1.size
        go_wp2_with fail
        go_meet
        exact ⟨rfl, hB2'⟩
      case rest =>
      obtain ⟨rfl, hB2⟩ := hcut
      obtain ⟨w2, hw2⟩ : ∃ w2, w2 = wc := ⟨_, rfl⟩
      subst hw2
      clear hB1
      by_cases htag : mac (dkey s N tagLb 1) (dkey s N tagLb 2) (bs.take 44) = ckTag bs
      · have Hres := hide (show openRes s gen keep bs = .tuple #[.agg #[.int .u64 (hid (ckNum bs) s N (ckNonce bs) 0), .int .u64 (hid (ckNum bs) s N (ckNonce bs) 1)], .agg #[.int .u64 (hid (ckNum bs) s N (ckNonce bs) 2), .int .u64 (hid (ckNum bs) s N (ckNonce bs) 3)], .int .i64 0] from by
          unfold openRes
          rw [if_neg Hin.out, ← HN.out, if_pos htag])
        have ht : (ckTag bs != mac (dkey s N tagLb 1) (dkey s N tagLb 2) (bs.take 44)) = false := by simpa using htag.symm
        rw [ht]
        clear htag ht
        go_wp2_with fail
        refine (get02_any A 52 c bs 4 8 w2 (hr0.below hB2) (by omega) (by omega) (by omega) (by omega)).mono ?_
        rintro e w3 ⟨rfl, rfl⟩
        rw [show (8 : Int).toNat = 8 from rfl, show (4 : Int).toNat = 4 from rfl]
        have Hnon := hide (show ((ofBe (sub bs 4 8) : Nat) : Int) = ckNonce bs from rfl)
        rw [Hnon.out]
        have hb4 : Blk (w2.alloc (.cells #[.int .u64 0, .int .u64 0, .int .u64 0, .int .u64 0] 51)) w2.heap.size 51 (numAt (hid (ckNum bs) s N (ckNonce bs)) 0) := Blk.new w2 51 [.int .u64 0, .int .u64 0, .int .u64 0, .int .u64 0]
        have hB4 := hB2.alloc hB2.size (.cells #[.int .u64 0, .int .u64 0, .int .u64 0, .int .u64 0] 51)
        have hsz2 := hB2.size
        go_wp2
        go_loopw [15] (fun iv wr => ∃ k : Nat, k ≤ 4 ∧ iv = .int .i64 k ∧ Blk wr w2.heap.size 51 (numAt (hid (ckNum bs) s N (ckNonce bs)) k) ∧ Below wA.heap.size wA wr) (fun iv _ => 4 - (intOf iv).toNat)
        case atStart => exact ⟨0, by omega, rfl, hb4, hB4⟩
        case round =>
          clear hb4 hB4
          obtain ⟨k, hk, rfl, hb, hB⟩ := hrel
          by_cases hlt : k < 4
          · have hkI : (k : Int) < 4 := by omega
            have q0 : IntKind.i64.wrap (8 * (k : Int)) = 8 * (k : Int) := IntWalk.i64_in _ (by omega)
            have q1 : IntKind.i64.wrap (12 + 8 * (k : Int)) = 12 + 8 * (k : Int) := IntWalk.i64_in _ (by omega)
            go_wp2_with fail
            refine (get02_any A 52 c bs (12 + 8 * (k : Int)) 8 wr (hr0.below hB) (by omega) (by omega) (by omega) (by omega)).mono ?_
            rintro e w5 ⟨rfl, rfl⟩
            rw [show (8 : Int).toNat = 8 from rfl, show (12 + 8 * (k : Int)).toNat = 12 + 8 * k by omega]
            have Hnum := hide (show ((ofBe (sub bs (12 + 8 * k) 8) : Nat) : Int) = ckNum bs k from rfl)
            rw [Hnum.out]
            go_wp2_with fail
            refine (pad_any g s gen keep N k (ckNonce bs) wr (hJ0.below' hB) hNG (by omega)).mono ?_
            rintro e w6 ⟨rfl, hB6⟩
            have Hhid := hide (show bits .xor .u64 (ckNum bs k) (padN s N (ckNonce bs) k) = hid (ckNum bs) s N (ckNonce bs) k from rfl)
            have hb6 := hb.below' hB6
            have hB6' := below_step hB hB6 hB.size
            have c0 := hb6.cell k
            rw [numAt_get (hid (ckNum bs) s N (ckNonce bs)) k hlt] at c0
            have f0 := hb6.frozen k
            have hbs := hb6.set_ k (.int .u64 (hid (ckNum bs) s N (ckNonce bs) k))
            rw [numAt_set (hid (ckNum bs) s N (ckNonce bs)) k hlt] at hbs
            have hBs := hB6'.setCell (p := ⟨w2.heap.size, k, none⟩) hsz2 (.int .u64 (hid (ckNum bs) s N (ckNonce bs) k))
            clear hb hB hB6 hb6 hB6'
            go_wp2
            rw [Hhid.out]
            exact ⟨⟨k + 1, by omega, by go_num, hbs, hBs⟩, by simp [intOf]; omega⟩
          · obtain rfl : k = 4 := by omega
            generalize hid (ckNum bs) s N (ckNonce bs) = y at *
            have d0 := hb.cell 0
            have d1 := hb.cell 1
            have d2 := hb.cell 2
            have d3 := hb.cell 3
            rw [show numAt y 4 = [.int .u64 (y 0), .int .u64 (y 1), .int .u64 (y 2), .int .u64 (y 3)] from rfl] at d0 d1 d2 d3
            simp only [List.getElem?_cons_zero, List.getElem?_cons_succ] at d0 d1 d2 d3
            have hu9 := H2.1.keep hB
            have hv9 := H2.2.1.keep hB
            have HB9 := hide hB
            have u0 := hu9.c0
            have u1 := hu9.c1
            have u2 := hu9.f0
            have u3 := hu9.f1
            have v0 := hv9.c0
            have v1 := hv9.c1
            have v2 := hv9.f0
            have v3 := hv9.f1
            have Hk := hide (four_k (W := wr) ⟨u0, u1, u2, u3⟩ ⟨v0, v1, v2, v3⟩ (Nat.ne_of_lt (Nat.lt_succ_self _)) (.int .u64 (y 0)) (.int .u64 (y 1)) (.int .u64 (y 2)) (.int .u64 (y 3)))
            have n1 : w2.heap.size ≠ w.heap.size := by have := Hsz.out; omega
            have n2 : w2.heap.size ≠ w.heap.size + 1 := by have := Hsz.out; omega
            have hS := four_cells d0 d1 d2 d3
            clear hb hB
            go_wp2
            go_region_held3 (fun w' => w'.cell? ⟨w2.heap.size, 0, none⟩ = some (.int .u64 (y 0)) ∧ w'.cell? ⟨w2.heap.size, 1, none⟩ = some (.int .u64 (y 1)) ∧ w'.cell? ⟨w2.heap.size, 2, none⟩ = some (.int .u64 (y 2)) ∧ w'.cell? ⟨w2.heap.size, 3, none⟩ = some (.int .u64 (y 3)))
              (first | exact hS | exact four_keep hS n1 | exact four_keep hS n2 | exact four_keep (four_keep hS n1) n2) (fail)
            go_wp2
            refine bodyPost_ret (v := .tuple #[.agg #[.int .u64 (y 0), .int .u64 (y 1)], .agg #[.int .u64 (y 2), .int .u64 (y 3)], .int .i64 0]) (by simp [results, Try.results17, go_sem, Hk.out.1, Hk.out.2.1, Hk.out.2.2.1, Hk.out.2.2.2]) rfl ⟨by rw [Hres.out], ?_⟩
            exact (four_below (below_step H2.2.2 HB9.out H2.2.2.size) _ _ _ _).drew
      · have Hres := hide (show openRes s gen keep bs = .tuple #[zero2, zero2, .int .i64 16] from by
          unfold openRes
          rw [if_neg Hin.out, ← HN.out, if_neg htag])
        have ht : (ckTag bs != mac (dkey s N tagLb 1) (dkey s N tagLb 2) (bs.take 44)) = true := by simpa using fun e => htag e.symm
        rw [ht]
        clear htag ht
        have H3 : _ ∧ _ ∧ True := ⟨H2.1.keep hB2, H2.2.1.keep hB2, trivial⟩
        have u0 := H3.1.c0
        have u1 := H3.1.c1
        have u2 := H3.1.f0
        have u3 := H3.1.f1
        have v0 := H3.2.1.c0
        have v1 := H3.2.1.c1
        have v2 := H3.2.1.f0
        have v3 := H3.2.1.f1
        have Hk := hide (four_k (H2.1.keep hB2) (H2.2.1.keep hB2) (Nat.ne_of_lt (Nat.lt_succ_self _)) (.int .u64 0) (.int .u64 0) (.int .u64 0) (.int .u64 0))
        go_wp2
        refine bodyPost_ret (v := .tuple #[zero2, zero2, .int .i64 16]) (by simp [results, Try.results17, go_sem, zero2, Hk.out.1, Hk.out.2.1, Hk.out.2.2.1, Hk.out.2.2.2]) rfl ⟨by rw [Hres.out], ?_⟩
        exact four_below (below_step H2.2.2 hB2 H2.2.2.size) _ _ _ _
end Go.Proofs.Ytdgjbaeflbggpaa
