/- Seal, and the reference's.
  SEATS: cookie guard -/
import Derived.Test.YtdgjbaeflbggpaaMask
import Derived.Test.YtdgjbaeflbggpaaRef02
namespace Go.Proofs.Ytdgjbaeflbggpaa
open Go.RowKit
set_option linter.unusedVariables false

/-- The numbers of two keys. -/
def four (a b c d : Int) : Nat → Int
  | 0 => a
  | 1 => b
  | 2 => c
  | _ => d

/-- The bytes ahead of the tag, with k of the numbers. -/
def cookieAt (s : Int) (g : Nat) (nonce : Int) (x : Nat → Int) (k : Nat) : List UInt8 := (be g 4 ++ be nonce.toNat 8) ++ (List.range k).flatMap fun j => be (hid x s g nonce j).toNat 8
/-- A cookie. -/
def cookieOf (s : Int) (g : Nat) (nonce : Int) (x : Nat → Int) : List UInt8 := cookieAt s g nonce x 4 ++ be (mac (dkey s g tagLb 1) (dkey s g tagLb 2) (cookieAt s g nonce x 4)).toNat 8

theorem cookieAt_length (s : Int) (g : Nat) (nonce : Int) (x : Nat → Int) (k : Nat) : (cookieAt s g nonce x k).length = 12 + 8 * k := by
  unfold cookieAt
  rw [List.length_append, List.length_append, be_length, be_length, List.length_flatMap]
  have : (List.map (fun a => (be (hid x s g nonce a).toNat 8).length) (List.range k)) = List.replicate k 8 := by
    rw [List.eq_replicate_iff]
    refine ⟨by simp, fun b hb => ?_⟩
    obtain ⟨a, _, rfl⟩ := List.mem_map.1 hb
    exact be_length _ _
  rw [this, List.sum_replicate_nat]
  omega
theorem cookieAt_succ (s : Int) (g : Nat) (nonce : Int) (x : Nat → Int) (k : Nat) : cookieAt s g nonce x k ++ be (hid x s g nonce k).toNat 8 = cookieAt s g nonce x (k + 1) := by
  simp [cookieAt, List.range_succ, List.append_assoc]
theorem hid_range (x : Nat → Int) (s : Int) (g : Nat) (nonce : Int) (k : Nat) : 0 ≤ hid x s g nonce k ∧ hid x s g nonce k ≤ 18446744073709551615 := bits_u64_range _ _ _

set_option maxHeartbeats 2000000 in
theorem seal_own (g : Nat) (s : Int) (gen keep : Nat) (a b c d nonce : Int) (w : World) (h : JarAt w g s gen keep) (hG : gen ≤ 2147483647) (hn : 0 ≤ nonce ∧ nonce ≤ 18446744073709551615) :
    Calls Try.prog 11 #[.pointer (some ⟨g, 0, none⟩), .agg #[.int .u64 a, .int .u64 b], .agg #[.int .u64 c, .int .u64 d], .int .u64 nonce] w fun e w' => ∃ A n c', e = .returned (.slice A n c') ∧ OwnB w' w.heap.size A n c' (cookieOf s gen nonce (four a b c d)) ∧ Below w.heap.size w w' := by
  have hA1 := ((Below.refl w.heap.size w).alloc (Nat.le_refl _) (.cells #[.int .u64 a, .int .u64 b] 24)).alloc (by simp) (.cells #[.int .u64 c, .int .u64 d] 24)
  have hbK : Blk ((w.alloc (.cells #[.int .u64 a, .int .u64 b] 24)).alloc (.cells #[.int .u64 c, .int .u64 d] 24)) w.heap.size 24 [.int .u64 a, .int .u64 b] := (Blk.new w 24 [.int .u64 a, .int .u64 b]).alloc _
  have hbL : Blk ((w.alloc (.cells #[.int .u64 a, .int .u64 b] 24)).alloc (.cells #[.int .u64 c, .int .u64 d] 24)) (w.heap.size + 1) 24 [.int .u64 c, .int .u64 d] := by
    have := Blk.new (w.alloc (.cells #[.int .u64 a, .int .u64 b] 24)) 24 [.int .u64 c, .int .u64 d]
    simpa using this
  have hJ : JarAt ((w.alloc (.cells #[.int .u64 a, .int .u64 b] 24)).alloc (.cells #[.int .u64 c, .int .u64 d] 24)) g s gen keep := (h.alloc _).alloc _
  have h1 := hJ.cell 1
  simp only [List.getElem?_cons_zero, List.getElem?_cons_succ] at h1
  go_enter Try.func11, Try.ntmps11
  go_wp2_with fail
  refine (append_any none 0 0 [] (gen : Nat) 4 _ (RB.nil _) (by omega) (by omega) (by omega) (by simp; omega) (by omega)).mono ?_
  rintro e w1 ⟨A1, n1, c1, rfl, hown1, hB1⟩
  have hr1 := hown1.rb
  rw [List.nil_append, Int.toNat_natCast] at hr1
  obtain rfl : n1 = 4 := by rw [← hr1.len]; exact be_length _ _
  have hW1 := below_step hA1 hB1 hA1.size
  have hbK1 := hbK.below' hB1
  have hbL1 := hbL.below' hB1
  have hJ1 : JarAt w1 g s gen keep := hJ.below' hB1
  clear hown1 hB1 hA1 hbK hbL hJ h1
  go_wp2_with fail
  refine (append_any A1 4 c1 _ nonce 8 _ hr1 (by omega) (by omega) hn.1 (by simp; omega) (by omega)).mono ?_
  rintro e w2 ⟨A2, n2, c2, rfl, hown2, hB2⟩
  have hr2 := hown2.rb
  obtain rfl : n2 = 12 := by rw [← hr2.len]; simp [be_length]
  have hW2 := below_step hW1 hB2 hW1.size
  have hbK2 := hbK1.below' hB2
  have hbL2 := hbL1.below' hB2
  have hJ2 : JarAt w2 g s gen keep := hJ1.below' hB2
  have k0 := hbK2.cell 0
  have k1 := hbK2.cell 1
  have l0 := hbL2.cell 0
  have l1 := hbL2.cell 1
  have j1 := hJ2.cell 1
  simp only [List.getElem?_cons_zero, List.getElem?_cons_succ] at k0 k1 l0 l1 j1
  have hJ2d : JarAt w2.drew g s gen keep := hJ2
  clear hown2 hB2 hW1 hbK1 hbL1 hJ1 hr1 hbK2 hbL2
  go_wp2
  go_region_held3 (fun w' => w'.cell? ⟨w.heap.size, 0, none⟩ = some (.int .u64 a) ∧ w'.cell? ⟨w.heap.size, 1, none⟩ = some (.int .u64 b) ∧ w'.cell? ⟨w.heap.size + 1, 0, none⟩ = some (.int .u64 c) ∧ w'.cell? ⟨w.heap.size + 1, 1, none⟩ = some (.int .u64 d) ∧ w'.cell? ⟨g, 1, none⟩ = some (.int .i64 gen))
    (first | exact ⟨k0, k1, l0, l1, j1⟩ | exact ⟨m0, m1, m2, m3, m4⟩)
    (first | (go_at_call 24; refine (mask_any g s gen keep gen nonce (four a b c d) w2.drew hJ2d hG).mono ?_; rintro e w3 ⟨rfl, hB3⟩; have m0 := cell_keep hB3 k0; have m1 := cell_keep hB3 k1; have m2 := cell_keep hB3 l0; have m3 := cell_keep hB3 l1; have m4 := cell_keep hB3 j1))
  have hB3 : Below w2.heap.size w2 w3 := (Below.refl _ w2).drew.trans hB3
  have hW3 := below_step hW2 hB3 hW2.size
  have hr3 := hr2.below hB3
  have hJ3 : JarAt w3 g s gen keep := hJ2.below' hB3
  have hix : ∀ k : Nat, k < 4 → ∀ w : World, (Instr.index 51 (.agg #[.int .u64 (hid (four a b c d) s gen nonce 0), .int .u64 (hid (four a b c d) s gen nonce 1), .int .u64 (hid (four a b c d) s gen nonce 2), .int .u64 (hid (four a b c d) s gen nonce 3)]) (.int .i64 (k : Int))).run Try.prog w = .ok (.int .u64 (hid (four a b c d) s gen nonce k)) w := by
    intro k hk w
    rcases (show k = 0 ∨ k = 1 ∨ k = 2 ∨ k = 3 by omega) with rfl | rfl | rfl | rfl <;> kernel_rfl
  clear hB3 hW2 hr2 hJ2 hJ2d k0 k1 l0 l1 j1 m0 m1 m2 m3 m4
  go_wp2
  go_loopw [46, 9] (fun iv bv wr => ∃ (k : Nat) (A : Option Addr) (n c' : Nat), k ≤ 4 ∧ iv = .int .i64 k ∧ bv = .slice A n c' ∧ n = 12 + 8 * k ∧ RB wr A n c' (cookieAt s gen nonce (four a b c d) k) ∧ JarAt wr g s gen keep ∧ Below w.heap.size w wr) (fun iv _ _ => 4 - (intOf iv).toNat)
  case atStart => exact ⟨0, A2, 12, c2, by omega, rfl, rfl, rfl, by simpa [cookieAt] using hr3, hJ3, hW3⟩
  case round =>
    obtain ⟨k, A, n, c', hk, rfl, rfl, rfl, hr, hJ, hW⟩ := hrel
    by_cases hlt : k < 4
    · have hi := hix k hlt
      have hrg := hid_range (four a b c d) s gen nonce k
      have Hs := hide (cookieAt_succ s gen nonce (four a b c d) k)
      clear hix
      generalize hid (four a b c d) s gen nonce k = y at *
      go_wp2_with fail
      refine (append_any A (12 + 8 * k) c' _ y 8 _ hr (by omega) (by omega) hrg.1 (by simp; omega) (by omega)).mono ?_
      rintro e w4 ⟨A4, n4, c4, rfl, hown4, hB4⟩
      have hr4 := hown4.rb
      obtain rfl : n4 = 12 + 8 * (k + 1) := by rw [← hr4.len, List.length_append, hr.len, be_length]; rfl
      have hJ4 : JarAt w4 g s gen keep := hJ.below' hB4
      have hW4 := below_step hW hB4 hW.size
      rw [show (8 : Int).toNat = 8 from rfl, Hs.out] at hr4
      go_wp2
      exact ⟨⟨k + 1, A4, _, c4, by omega, by go_num, rfl, rfl, hr4, hJ4, hW4⟩, by simp [intOf]; omega⟩
    · obtain rfl : k = 4 := by omega
      have j1 := hJ.cell 1
      simp only [List.getElem?_cons_zero, List.getElem?_cons_succ] at j1
      clear hix
      go_wp2_with fail
      refine (derived_any g s gen keep gen tagLb _ hJ hG (by simp [tagLb])).mono ?_
      rintro e w4 ⟨rfl, hB4⟩
      have hW4 := below_step hW hB4 hW.size
      have hr4 := hr.below hB4
      clear hB4 hr hW
      go_wp2_with fail
      refine (tag_any _ _ A 44 c' _ _ hr4).mono ?_
      rintro e w5 ⟨rfl, hB5⟩
      have hW5 := below_step hW4 hB5 hW4.size
      have hr5 := hr4.below hB5
      have hrg := mac_range (dkey s gen tagLb 1) (dkey s gen tagLb 2) (cookieAt s gen nonce (four a b c d) 4)
      clear hB5 hr4 hW4
      go_wp2_with fail
      refine (append_any A 44 c' _ _ 8 _ hr5 (by omega) (by omega) hrg.1 (by simp; omega) (by omega)).mono ?_
      rintro e w6 ⟨A6, n6, c6, rfl, hown6, hB6⟩
      go_wp2
      go_ret
      exact ⟨A6, n6, c6, rfl, hown6.mono hW5.size, below_step hW5 hB6 hW5.size⟩

theorem seal_any (g : Nat) (s : Int) (gen keep : Nat) (a b c d nonce : Int) (w : World) (h : JarAt w g s gen keep) (hG : gen ≤ 2147483647) (hn : 0 ≤ nonce ∧ nonce ≤ 18446744073709551615) :
    Calls Try.prog 11 #[.pointer (some ⟨g, 0, none⟩), .agg #[.int .u64 a, .int .u64 b], .agg #[.int .u64 c, .int .u64 d], .int .u64 nonce] w fun e w' => ∃ A n c', e = .returned (.slice A n c') ∧ RB w' A n c' (cookieOf s gen nonce (four a b c d)) ∧ Below w.heap.size w w' :=
  (seal_own g s gen keep a b c d nonce w h hG hn).mono fun e w' ⟨A, n, c', h1, h2, h3⟩ => ⟨A, n, c', h1, h2.rb, h3⟩

set_option maxHeartbeats 2000000 in
theorem refSeal_any (g : Nat) (s : Int) (gen keep : Nat) (a b c d nonce : Int) (w : World) (h : RefAt w g s gen keep) (hG : gen ≤ 2147483647) (hn : 0 ≤ nonce ∧ nonce ≤ 18446744073709551615) :
    Calls Try.prog 12 #[.pointer (some ⟨g, 0, none⟩), .agg #[.int .u64 a, .int .u64 b], .agg #[.int .u64 c, .int .u64 d], .int .u64 nonce] w fun e w' => ∃ A n c', e = .returned (.slice A n c') ∧ RB w' A n c' (cookieOf s gen nonce (four a b c d)) ∧ Below w.heap.size w w' := by
  have hA1 := ((Below.refl w.heap.size w).alloc (Nat.le_refl _) (.cells #[.int .u64 a, .int .u64 b] 24)).alloc (by simp) (.cells #[.int .u64 c, .int .u64 d] 24)
  have hbK : Blk ((w.alloc (.cells #[.int .u64 a, .int .u64 b] 24)).alloc (.cells #[.int .u64 c, .int .u64 d] 24)) w.heap.size 24 [.int .u64 a, .int .u64 b] := (Blk.new w 24 [.int .u64 a, .int .u64 b]).alloc _
  have hbL : Blk ((w.alloc (.cells #[.int .u64 a, .int .u64 b] 24)).alloc (.cells #[.int .u64 c, .int .u64 d] 24)) (w.heap.size + 1) 24 [.int .u64 c, .int .u64 d] := by
    have := Blk.new (w.alloc (.cells #[.int .u64 a, .int .u64 b] 24)) 24 [.int .u64 c, .int .u64 d]
    simpa using this
  have hJ : RefAt ((w.alloc (.cells #[.int .u64 a, .int .u64 b] 24)).alloc (.cells #[.int .u64 c, .int .u64 d] 24)) g s gen keep := (h.alloc _).alloc _
  have h1 := hJ.cell 2
  simp only [List.getElem?_cons_zero, List.getElem?_cons_succ] at h1
  go_enter Try.func12, Try.ntmps12
  go_wp2_with fail
  refine (append02_any none 0 0 [] (gen : Nat) 4 _ (RB.nil _) (by omega) (by omega) (by omega) (by simp; omega) (by omega)).mono ?_
  rintro e w1 ⟨A1, n1, c1, rfl, hown1, hB1⟩
  have hr1 := hown1.rb
  rw [List.nil_append, Int.toNat_natCast] at hr1
  obtain rfl : n1 = 4 := by rw [← hr1.len]; exact be_length _ _
  have hW1 := below_step hA1 hB1 hA1.size
  have hbK1 := hbK.below' hB1
  have hbL1 := hbL.below' hB1
  have hJ1 : RefAt w1 g s gen keep := hJ.below' hB1
  clear hown1 hB1 hA1 hbK hbL hJ h1
  go_wp2_with fail
  refine (append02_any A1 4 c1 _ nonce 8 _ hr1 (by omega) (by omega) hn.1 (by simp; omega) (by omega)).mono ?_
  rintro e w2 ⟨A2, n2, c2, rfl, hown2, hB2⟩
  have hr2 := hown2.rb
  obtain rfl : n2 = 12 := by rw [← hr2.len]; simp [be_length]
  have hW2 := below_step hW1 hB2 hW1.size
  have hbK2 := hbK1.below' hB2
  have hbL2 := hbL1.below' hB2
  have hJ2 : RefAt w2 g s gen keep := hJ1.below' hB2
  have k0 := hbK2.cell 0
  have k1 := hbK2.cell 1
  have l0 := hbL2.cell 0
  have l1 := hbL2.cell 1
  simp only [List.getElem?_cons_zero, List.getElem?_cons_succ] at k0 k1 l0 l1
  clear hown2 hB2 hW1 hbK1 hbL1 hJ1 hr1 hbK2 hbL2
  go_wp2
  go_loopw [12, 9] (fun iv bv wr => ∃ (k : Nat) (A : Option Addr) (n c' : Nat), k ≤ 4 ∧ iv = .int .i64 k ∧ bv = .slice A n c' ∧ n = 12 + 8 * k ∧ RB wr A n c' (cookieAt s gen nonce (four a b c d) k) ∧ RefAt wr g s gen keep ∧ Blk wr w2.heap.size 51 [.int .u64 a, .int .u64 b, .int .u64 c, .int .u64 d] ∧ Below w.heap.size w wr) (fun iv _ _ => 4 - (intOf iv).toNat)
  case atStart => exact ⟨0, A2, 12, c2, by omega, rfl, rfl, rfl, by simpa [cookieAt] using hr2.alloc _, hJ2.alloc _, Blk.new w2 _ [.int .u64 a, .int .u64 b, .int .u64 c, .int .u64 d], hW2.alloc hW2.size _⟩
  case round =>
    obtain ⟨k, A, n, c', hk, rfl, rfl, rfl, hr, hJ, hL, hW⟩ := hrel
    have j1 := hJ.cell 2
    simp only [List.getElem?_cons_zero, List.getElem?_cons_succ] at j1
    by_cases hlt : k < 4
    · have hrg := hid_range (four a b c d) s gen nonce k
      have Hs := hide (cookieAt_succ s gen nonce (four a b c d) k)
      have hc0 : wr.cell? ⟨w2.heap.size, k, none⟩ = some (.int .u64 (four a b c d k)) := by
        have := hL.cell k
        rcases (show k = 0 ∨ k = 1 ∨ k = 2 ∨ k = 3 by omega) with rfl | rfl | rfl | rfl <;> exact this
      have hkI : (k : Int) < 4 := by omega
      have hJd : RefAt wr.drew g s gen keep := hJ
      have Hy := hide (show hid (four a b c d) s gen nonce k = bits .xor .u64 (four a b c d k) (padN s gen nonce k) from rfl)
      have hrd : RB wr.drew A (12 + 8 * k) c' (cookieAt s gen nonce (four a b c d) k) := hr.below (Below.refl _ wr).drew
      generalize hid (four a b c d) s gen nonce k = y at *
      generalize four a b c d k = z at *
      have q1 : (1 : Int) ≤ 8 := by omega
      have q2 : (8 : Int) ≤ 8 := by omega
      have q4 : y < 256 ^ (8 : Int).toNat := by simp; omega
      have q5 : 12 + 8 * k ≤ 70368744177664 := by omega
      go_wp2
      go_region_held3 (fun w' => w'.cell? ⟨w2.heap.size, k, none⟩ = some (.int .u64 z) ∧ w'.cell? ⟨g, 2, none⟩ = some (.int .i64 gen))
        (first | exact ⟨hc0, j1⟩ | exact ⟨m0, m1⟩ | exact ⟨n0, n1⟩)
        (first
          | (go_at_call 28; refine (pad_any g s gen keep gen k nonce wr.drew hJd hG (Nat.le_of_lt (Nat.lt_of_lt_of_le hlt (by decide)))).mono ?_; rintro e w3 ⟨rfl, hB3⟩; have m0 := cell_keep hB3 hc0; have m1 := cell_keep hB3 j1)
          | (go_at_call 27; rw [← Hy.out]; refine (append02_any A (12 + 8 * k) c' _ y 8 w3 (hrd.below hB3) q1 q2 hrg.1 q4 q5).mono ?_; rintro e w4 ⟨A4, n4, c4, rfl, hown4, hB4⟩; have n0 := cell_keep hB4 m0; have n1 := cell_keep hB4 m1))
      have hr4 := hown4.rb
      obtain rfl : n4 = 12 + 8 * (k + 1) := by rw [← hr4.len, List.length_append, hr.len, be_length]; rfl
      have hB3' : Below wr.heap.size wr w3 := (Below.refl _ wr).drew.trans hB3
      have hJ4 : RefAt w4 g s gen keep := Blk.below' (Blk.below' hJ hB3') hB4
      have hL4 := (hL.below' hB3').below' hB4
      have hW3 := below_step hW hB3' hW.size
      have hW4 := below_step hW3 hB4 hW3.size
      rw [show (8 : Int).toNat = 8 from rfl, Hs.out] at hr4
      clear hB3 hB4 hB3' hown4 q1 q2 q4
      go_wp2
      exact ⟨⟨k + 1, A4, _, c4, by omega, by go_num, rfl, rfl, hr4, hJ4, hL4, hW4⟩, by simp [intOf]; omega⟩
    · obtain rfl : k = 4 := by omega
      go_wp2_with fail
      refine (tagOf_any g s gen keep gen A 44 c' _ _ hJ hG hr (by omega)).mono ?_
      rintro e w5 ⟨rfl, hB5⟩
      have hW5 := below_step hW hB5 hW.size
      have hr5 := hr.below hB5
      have hrg := mac_range (dkey s gen tagLb 1) (dkey s gen tagLb 2) (cookieAt s gen nonce (four a b c d) 4)
      clear hB5 hr hW
      go_wp2_with fail
      refine (append02_any A 44 c' _ _ 8 _ hr5 (by omega) (by omega) hrg.1 (by simp; omega) (by omega)).mono ?_
      rintro e w6 ⟨A6, n6, c6, rfl, hown6, hB6⟩
      go_wp2
      go_ret
      exact ⟨A6, n6, c6, rfl, hown6.rb, below_step hW5 hB6 hW5.size⟩
end Go.Proofs.Ytdgjbaeflbggpaa
