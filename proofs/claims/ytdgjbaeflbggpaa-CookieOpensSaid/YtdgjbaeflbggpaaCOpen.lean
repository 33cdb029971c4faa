/- Open, and the reference's.
  SEATS: cookie guard -/
import Derived.Test.YtdgjbaeflbggpaaSeal
import Derived.Test.YtdgjbaeflbggpaaRead
import Derived.BigQuiet
import Derived.Deep.DeepCutAuto
namespace Go.Proofs.Ytdgjbaeflbggpaa
open Go.RowKit
set_option linter.unusedVariables false

def zero2 : Value := .agg #[.int .u64 0, .int .u64 0]

theorem two_new (w : World) : Key0 ((w.alloc (.cells #[.int .u64 0, .int .u64 0] 24)).alloc (.cells #[.int .u64 0, .int .u64 0] 24)) w.heap.size ∧ Key0 ((w.alloc (.cells #[.int .u64 0, .int .u64 0] 24)).alloc (.cells #[.int .u64 0, .int .u64 0] 24)) (w.heap.size + 1) ∧ Below w.heap.size w ((w.alloc (.cells #[.int .u64 0, .int .u64 0] 24)).alloc (.cells #[.int .u64 0, .int .u64 0] 24)) := by
  refine ⟨(Key0.new w).keep ((Below.refl _ _).alloc (Nat.le_refl _) _), ?_, ((Below.refl _ _).alloc (Nat.le_refl _) _).alloc (by simp) _⟩
  have := Key0.new (w.alloc (.cells #[.int .u64 0, .int .u64 0] 24))
  simpa using this

theorem open_nil (A : Option Addr) (m c : Nat) (bs : List UInt8) (w : World) (h : RB w A m c bs) :
    Calls Try.prog 16 #[.pointer none, .slice A m c] w fun e w' => e = .returned (.tuple #[zero2, zero2, .int .i64 1]) ∧ Below w.heap.size w w' := by
  go_enter Try.func16, Try.ntmps16
  go_wp2
  refine bodyPost_ret (v := .tuple #[zero2, zero2, .int .i64 1]) (by simp [results, Try.results16, go_sem, zero2]) rfl ⟨rfl, ?_⟩
  exact (two_new w).2.2
theorem open_short (g : Nat) (s : Int) (gen keep : Nat) (A : Option Addr) (m c : Nat) (bs : List UInt8) (w : World) (hJ : JarAt w g s gen keep) (h : RB w A m c bs) (hm : m < 52) :
    Calls Try.prog 16 #[.pointer (some ⟨g, 0, none⟩), .slice A m c] w fun e w' => e = .returned (.tuple #[zero2, zero2, .int .i64 5]) ∧ Below w.heap.size w w' := by
  go_enter Try.func16, Try.ntmps16
  go_wp2
  refine bodyPost_ret (v := .tuple #[zero2, zero2, .int .i64 5]) (by simp [results, Try.results16, go_sem, zero2]) rfl ⟨rfl, ?_⟩
  exact (two_new w).2.2
theorem open_long (g : Nat) (s : Int) (gen keep : Nat) (A : Option Addr) (m c : Nat) (bs : List UInt8) (w : World) (hJ : JarAt w g s gen keep) (h : RB w A m c bs) (hm : 52 < m) :
    Calls Try.prog 16 #[.pointer (some ⟨g, 0, none⟩), .slice A m c] w fun e w' => e = .returned (.tuple #[zero2, zero2, .int .i64 6]) ∧ Below w.heap.size w w' := by
  have hc := h.cap
  have hx := h.max
  go_enter Try.func16, Try.ntmps16
  go_wp2
  refine bodyPost_ret (v := .tuple #[zero2, zero2, .int .i64 6]) (by simp [results, Try.results16, go_sem, zero2]) rfl ⟨rfl, ?_⟩
  exact (two_new w).2.2

/-- What the bytes of a cookie say. -/
def ckGen (bs : List UInt8) : Nat := ofBe (sub bs 0 4)
def ckNonce (bs : List UInt8) : Int := (ofBe (sub bs 4 8) : Nat)
def ckNum (bs : List UInt8) (i : Nat) : Int := (ofBe (sub bs (12 + 8 * i) 8) : Nat)
def ckTag (bs : List UInt8) : Int := (ofBe (sub bs 44 8) : Nat)

/-- What Open says of 52 bytes. -/
def openRes (s : Int) (gen keep : Nat) (bs : List UInt8) : Value :=
  if ckGen bs < 1 ∨ gen < ckGen bs ∨ ckGen bs + keep ≤ gen then .tuple #[zero2, zero2, .int .i64 17]
  else if mac (dkey s (ckGen bs) tagLb 1) (dkey s (ckGen bs) tagLb 2) (bs.take 44) = ckTag bs then .tuple #[.agg #[.int .u64 (hid (ckNum bs) s (ckGen bs) (ckNonce bs) 0), .int .u64 (hid (ckNum bs) s (ckGen bs) (ckNonce bs) 1)], .agg #[.int .u64 (hid (ckNum bs) s (ckGen bs) (ckNonce bs) 2), .int .u64 (hid (ckNum bs) s (ckGen bs) (ckNonce bs) 3)], .int .i64 0]
  else .tuple #[zero2, zero2, .int .i64 16]

theorem four_k {W : World} {b b' : Nat} (h : Key0 W b) (h' : Key0 W b') (hne : b ≠ b') (u v u' v' : Value) :
    (W.setCell ⟨b, 0, none⟩ u).cell? ⟨b, 0, none⟩ = some u ∧ ((W.setCell ⟨b, 0, none⟩ u).setCell ⟨b, 1, none⟩ v).cell? ⟨b, 1, none⟩ = some v ∧
    (((W.setCell ⟨b, 0, none⟩ u).setCell ⟨b, 1, none⟩ v).setCell ⟨b', 0, none⟩ u').cell? ⟨b', 0, none⟩ = some u' ∧
    ((((W.setCell ⟨b, 0, none⟩ u).setCell ⟨b, 1, none⟩ v).setCell ⟨b', 0, none⟩ u').setCell ⟨b', 1, none⟩ v').cell? ⟨b', 1, none⟩ = some v' := by
  have h2 : Key0 ((W.setCell ⟨b, 0, none⟩ u).setCell ⟨b, 1, none⟩ v) b' := Key0.setTwo h h' (Ne.symm hne)
  exact ⟨key_one h u, (key_two h u v).2, key_one h2 u', (key_two h2 u' v').2⟩

theorem four_below {w W : World} (h : Below w.heap.size w W) (u v u' v' : Value) : Below w.heap.size w ((((W.setCell ⟨w.heap.size, 0, none⟩ u).setCell ⟨w.heap.size, 1, none⟩ v).setCell ⟨w.heap.size + 1, 0, none⟩ u').setCell ⟨w.heap.size + 1, 1, none⟩ v') :=
  (((h.setCell (Nat.le_refl _) _).setCell (Nat.le_refl _) _).setCell (Nat.le_succ _) _).setCell (Nat.le_succ _) _
theorem below_dn {B : Nat} {w W : World} (h : Below B w W) (q : Nat) : Below B w (W.drewN q) := h.trans ⟨rfl, rfl, rfl, Nat.le_refl _, fun _ _ => rfl⟩
theorem RB.pre {w : World} {A : Option Addr} {m c : Nat} {bs : List UInt8} (h : RB w A m c bs) (k : Nat) (hk : k ≤ m) : RB w A k c (bs.take k) :=
  ⟨by rw [List.length_take, h.len]; omega, Nat.le_trans hk h.cap, h.max, fun hn => by
    obtain ⟨b, o, hA, hlt, hc⟩ := h.cells (by omega)
    refine ⟨b, o, hA, hlt, fun j u hu => hc j u ?_⟩
    rw [BV_get] at hu ⊢
    rw [List.getElem?_take] at hu
    split at hu
    · exact hu
    · cases hu⟩
theorem Rdr.far {w : World} {p q b i : Nat} {bs : List UInt8} {n : Nat} (h : Rdr w p q bs n) (hp : p ≠ b) (hq : q ≠ b) (u : Value) : Rdr (w.setCell ⟨b, i, none⟩ u) p q bs n := by
  obtain ⟨A, hc, hA⟩ := h.cell
  exact ⟨h.ne, h.le, h.max, h.buf.far (p := ⟨b, i, none⟩) hq u, A, hc.far (p := ⟨b, i, none⟩) hp u, hA⟩
theorem Rdr.below {w w' : World} {p q : Nat} {bs : List UInt8} {n : Nat} (h : Rdr w p q bs n) (hb : Below w.heap.size w w') : Rdr w' p q bs n := by
  obtain ⟨A, hc, hA⟩ := h.cell
  exact ⟨h.ne, h.le, h.max, h.buf.below' hb, A, hc.below' hb, hA⟩
theorem Rdr.lt {w : World} {p q : Nat} {bs : List UInt8} {n : Nat} (h : Rdr w p q bs n) : p < w.heap.size ∧ q < w.heap.size := by
  obtain ⟨A, hc, hA⟩ := h.cell
  exact ⟨hc.lt, h.buf.lt⟩
/-- The four numbers, k of them read. -/
def numAt (x : Nat → Int) (k : Nat) : List Value := (List.range 4).map fun j => .int .u64 (if j < k then x j else 0)
theorem numAt_get (x : Nat → Int) (k : Nat) (hk : k < 4) : (numAt x k)[k]? = some (.int .u64 0) := by
  simp [numAt, List.getElem?_range hk]
theorem numAt_set (x : Nat → Int) (k : Nat) (hk : k < 4) : (numAt x k).set k (.int .u64 (x k)) = numAt x (k + 1) := by
  rcases (show k = 0 ∨ k = 1 ∨ k = 2 ∨ k = 3 by omega) with rfl | rfl | rfl | rfl <;> rfl

theorem uintTag_any (p q : Nat) (bs : List UInt8) (w : World) (hr : Rdr w p q bs (12 + 8 * 4)) (hl : bs.length = 52) :
    Calls Try.prog 31 #[.pointer (some ⟨p, 0, none⟩), .int .i64 8] w fun e w' => e = .returned (.int .u64 (ckTag bs)) ∧ w.grownBy w' (some p) :=
  (uint_any p q bs (12 + 8 * 4) 8 w hr (by omega) (by omega) (by rw [hl]; omega)).mono fun e w' ⟨h1, _, h3⟩ => ⟨h1, h3⟩

theorem four_cells {W : World} {b : Nat} {x0 x1 x2 x3 : Value} (d0 : W.cell? ⟨b, 0, none⟩ = some x0) (d1 : W.cell? ⟨b, 1, none⟩ = some x1) (d2 : W.cell? ⟨b, 2, none⟩ = some x2) (d3 : W.cell? ⟨b, 3, none⟩ = some x3) :
    W.cell? ⟨b, 0, none⟩ = some x0 ∧ W.cell? ⟨b, 1, none⟩ = some x1 ∧ W.cell? ⟨b, 2, none⟩ = some x2 ∧ W.cell? ⟨b, 3, none⟩ = some x3 := ⟨d0, d1, d2, d3⟩
theorem four_keep {W : World} {b b' : Nat} {x0 x1 x2 x3 u v : Value} (h : W.cell? ⟨b, 0, none⟩ = some x0 ∧ W.cell? ⟨b, 1, none⟩ = some x1 ∧ W.cell? ⟨b, 2, none⟩ = some x2 ∧ W.cell? ⟨b, 3, none⟩ = some x3) (hne : b ≠ b') :
    ((W.setCell ⟨b', 0, none⟩ u).setCell ⟨b', 1, none⟩ v).cell? ⟨b, 0, none⟩ = some x0 ∧ ((W.setCell ⟨b', 0, none⟩ u).setCell ⟨b', 1, none⟩ v).cell? ⟨b, 1, none⟩ = some x1 ∧ ((W.setCell ⟨b', 0, none⟩ u).setCell ⟨b', 1, none⟩ v).cell? ⟨b, 2, none⟩ = some x2 ∧ ((W.setCell ⟨b', 0, none⟩ u).setCell ⟨b', 1, none⟩ v).cell? ⟨b, 3, none⟩ = some x3 :=
  ⟨cell_set (cell_set h.1 hne) hne, cell_set (cell_set h.2.1 hne) hne, cell_set (cell_set h.2.2.1 hne) hne, cell_set (cell_set h.2.2.2 hne) hne⟩

set_option maxRecDepth 100000 in
set_option maxHeartbeats 4000000 in
theorem open_52 (g : Nat) (s : Int) (gen keep : Nat) (A : Option Addr) (c : Nat) (bs : List UInt8) (w : World) (hJ : JarAt w g s gen keep) (h : RB w A 52 c bs) (hG : 1 ≤ gen ∧ gen ≤ 2147483647) (hK : 1 ≤ keep ∧ keep ≤ 8) :
    Calls Try.prog 16 #[.pointer (some ⟨g, 0, none⟩), .slice A 52 c] w fun e w' => e = .returned (openRes s gen keep bs) ∧ Below w.heap.size w w' := by
  have hc := h.cap
  have hx := h.max
  have H2 := two_new w
  have hJ0 : JarAt ((w.alloc (.cells #[.int .u64 0, .int .u64 0] 24)).alloc (.cells #[.int .u64 0, .int .u64 0] 24)) g s gen keep := (hJ.alloc _).alloc _
  have hr0 := (h.alloc (.cells #[.int .u64 0, .int .u64 0] 24)).alloc (.cells #[.int .u64 0, .int .u64 0] 24)
  have hl : bs.length = 52 := h.len
  have Hl := hide hl
  clear hl
  go_enter Try.func16, Try.ntmps16
  go_wp2_with fail
  refine (newReader_any A 52 c bs _ hr0 (by omega)).mono ?_
  rintro e w1 ⟨p, q, rfl, hR1, hp, hq, hB1⟩
  have hsz : ((w.alloc (.cells #[.int .u64 0, .int .u64 0] 24)).alloc (.cells #[.int .u64 0, .int .u64 0] 24)).heap.size = w.heap.size + 2 := by simp
  generalize (w.alloc (.cells #[.int .u64 0, .int .u64 0] 24)).alloc (.cells #[.int .u64 0, .int .u64 0] 24) = wA at *
  have Hsz := hide hsz
  have Hp := hide hp
  clear hsz hq hp hJ h
  go_wp2_with fail
  refine (uint_any p q bs 0 4 _ hR1 (by omega) (by omega) (by rw [Hl.out]; omega)).mono ?_
  rintro e w2 ⟨rfl, hR2, hG2⟩
  have hB2 := hB1.grown hG2 hB1.size (by rintro k ⟨rfl⟩; exact Hp.out)
  have hN : ofBe (sub bs 0 4) < 4294967296 := Nat.lt_of_lt_of_le (ofBe_lt _) (by rw [sub_length bs 0 4 (by rw [Hl.out]; omega)]; omega)
  rw [show (4 : Int).toNat = 4 from rfl] at hR2 ⊢
  have HgN := hide (show ofBe (sub bs 0 4) = ckGen bs from rfl)
  rw [HgN.out] at hN ⊢
  have hJ2 : JarAt w2 g s gen keep := hJ0.below' hB2
  have j1 := hJ2.cell 1
  have j2 := hJ2.cell 2
  simp only [List.getElem?_cons_zero, List.getElem?_cons_succ] at j1 j2
  have hu2 := H2.1.keep hB2
  have hv2 := H2.2.1.keep hB2
  have u0 := hu2.c0
  have u1 := hu2.c1
  have u2 := hu2.f0
  have u3 := hu2.f1
  have v0 := hv2.c0
  have v1 := hv2.c1
  have v2 := hv2.f0
  have v3 := hv2.f1
  clear hB1 hG2 hR1
  obtain ⟨N, hNN⟩ : ∃ N, N = ckGen bs := ⟨_, rfl⟩
  have HN := hide hNN
  rw [← hNN] at hN ⊢
  clear hNN
  have p1 : IntKind.i64.wrap ((gen : Int) - keep) = (gen : Int) - keep := IntWalk.i64_in _ (by omega)
  have p2 : IntKind.i64.wrap ((gen : Int) - keep + 1) = (gen : Int) - keep + 1 := IntWalk.i64_in _ (by omega)
  have hM1 : ((N : Int) < if (1 : Int) < (gen : Int) - keep + 1 then (gen : Int) - keep + 1 else 1) ↔ (N < 1 ∨ N + keep ≤ gen) := by
    split <;> omega
  have Hk := fun nq : Nat => hide (four_k (W := w2.drewN nq) ⟨hu2.c0, hu2.c1, hu2.f0, hu2.f1⟩ ⟨hv2.c0, hv2.c1, hv2.f0, hv2.f1⟩ (Nat.ne_of_lt (Nat.lt_succ_self _)) (.int .u64 0) (.int .u64 0) (.int .u64 0) (.int .u64 0))
  go_upto_region 9 with (fail)
  go_cut [54] (fun t wx => t = .bool (decide (N < 1 ∨ gen < N ∨ N + keep ≤ gen)) ∧ ∃ nq, wx = w2.drewN nq)
  case first =>
    clear Hk H2 hJ0 hr0
    by_cases hz : (1 : Int) < (gen : Int) - keep + 1
    all_goals
      first | rw [if_pos hz] at hM1 | (rw [if_neg hz] at hM1; have hzF := eq_false hz; clear hz)
      by_cases hlow : N < 1 ∨ N + keep ≤ gen
      · have Hb := hide (show decide (N < 1 ∨ gen < N ∨ N + keep ≤ gen) = true from decide_eq_true (by omega))
        have hd := hM1.2 hlow
        clear hM1 hlow
        go_quiet (fail)
        go_wp2_with fail
        go_meet
        exact ⟨congrArg Value.bool Hb.out.symm, _, rfl⟩
      · have hd := decide_eq_false (fun h => hlow (hM1.1 h))
        by_cases hhi : gen < N
        · have Hb := hide (show decide (N < 1 ∨ gen < N ∨ N + keep ≤ gen) = true from decide_eq_true (by omega))
          have hd2 : (gen : Int) < (N : Int) := by omega
          clear hM1 hlow
          go_quiet (fail)
          go_wp2_with fail
          go_meet
          exact ⟨congrArg Value.bool Hb.out.symm, _, rfl⟩
        · have Hb := hide (show decide (N < 1 ∨ gen < N ∨ N + keep ≤ gen) = false from decide_eq_false (by omega))
          have hd2 : decide ((gen : Int) < (N : Int)) = false := by simpa using hhi
          clear hM1 hlow
          go_quiet (fail)
          go_wp2_with fail
          go_meet
          exact ⟨congrArg Value.bool Hb.out.symm, _, rfl⟩
  case rest =>
    obtain ⟨rfl, nq, rfl⟩ := hcut
    by_cases hbad : N < 1 ∨ gen < N ∨ N + keep ≤ gen
    · have Hres := hide (show openRes s gen keep bs = .tuple #[zero2, zero2, .int .i64 17] from if_pos (by rw [← HN.out]; exact hbad))
      rw [decide_eq_true hbad]
      go_wp2
      refine bodyPost_ret (v := .tuple #[zero2, zero2, .int .i64 17]) (by simp [results, Try.results16, go_sem, zero2, (Hk nq).out.1, (Hk nq).out.2.1, (Hk nq).out.2.2.1, (Hk nq).out.2.2.2]) rfl ⟨by rw [Hres.out], ?_⟩
      exact four_below (below_step H2.2.2 (below_dn hB2 nq) H2.2.2.size) _ _ _ _
    · have Hin := hide (show ¬ (ckGen bs < 1 ∨ gen < ckGen bs ∨ ckGen bs + keep ≤ gen) by rw [← HN.out]; exact hbad)
      have hNG : N ≤ 2147483647 := by omega
      rw [decide_eq_false hbad]
      clear hbad
      go_wp2_with fail
      refine (uint_any p q bs 4 8 (w2.drewN nq) ⟨hR2.ne, hR2.le, hR2.max, hR2.buf, hR2.cell⟩ (by omega) (by omega) (by rw [Hl.out]; omega)).mono ?_
      rintro e w3 ⟨rfl, hR3, hG3⟩
      rw [show (8 : Int).toNat = 8 from rfl] at hR3 ⊢
      have hB3 : Below wA.heap.size wA w3 := (below_dn hB2 nq).grown hG3 hB2.size (by rintro k ⟨rfl⟩; exact Hp.out)
      have Hnon := hide (show ((ofBe (sub bs 4 8) : Nat) : Int) = ckNonce bs from rfl)
      rw [Hnon.out]
      clear hG3 hR2 hB2 u0 u1 u2 u3 v0 v1 v2 v3 hu2 hv2 j1 j2 p1 p2 Hk hJ2 hM1
      have hR4 := hR3.below ((Below.refl _ w3).alloc (Nat.le_refl _) (.cells #[.int .u64 0, .int .u64 0, .int .u64 0, .int .u64 0] 51))
      have hb4 : Blk (w3.alloc (.cells #[.int .u64 0, .int .u64 0, .int .u64 0, .int .u64 0] 51)) w3.heap.size 51 (numAt (ckNum bs) 0) := Blk.new w3 51 [.int .u64 0, .int .u64 0, .int .u64 0, .int .u64 0]
      have hB4 := hB3.alloc hB3.size (.cells #[.int .u64 0, .int .u64 0, .int .u64 0, .int .u64 0] 51)
      have hpl := hR3.lt
      have hsz3 := hB3.size
      clear hB3 hR3
      go_wp2
      go_loopw [59] (fun iv wr => ∃ k : Nat, k ≤ 4 ∧ iv = .int .i64 k ∧ Rdr wr p q bs (12 + 8 * k) ∧ Blk wr w3.heap.size 51 (numAt (ckNum bs) k) ∧ Below wA.heap.size wA wr) (fun iv _ => 4 - (intOf iv).toNat)
      case atStart => exact ⟨0, by omega, rfl, hR4, hb4, hB4⟩
      case round =>
        obtain ⟨k, hk, rfl, hR, hb, hB⟩ := hrel
        by_cases hlt : k < 4
        · have hkI : (k : Int) < 4 := by omega
          go_wp2_with fail
          refine (uint_any p q bs (12 + 8 * k) 8 wr hR (by omega) (by omega) (by rw [Hl.out]; omega)).mono ?_
          rintro e w5 ⟨rfl, hR5, hG5⟩
          rw [show (8 : Int).toNat = 8 from rfl] at hR5 ⊢
          have hb5 := hb.grown hG5 (by simp; omega)
          have hB5 := hB.grown hG5 hB.size (by rintro k ⟨rfl⟩; exact Hp.out)
          have c0 := hb5.cell k
          rw [numAt_get (ckNum bs) k hlt] at c0
          have f0 := hb5.frozen k
          have hbs := hb5.set_ k (.int .u64 (ckNum bs k))
          rw [numAt_set (ckNum bs) k hlt] at hbs
          have hRs := hR5.far (b := w3.heap.size) (i := k) (by omega) (by omega) (.int .u64 (ckNum bs k))
          have Hnum := hide (show ((ofBe (sub bs (12 + 8 * k) 8) : Nat) : Int) = ckNum bs k from rfl)
          rw [Hnum.out]
          clear hG5 hR hb hB
          go_wp2
          exact ⟨⟨k + 1, by omega, by go_num, hRs, hbs, hB5.setCell hsz3 _⟩, by simp [intOf]; omega⟩
        · obtain rfl : k = 4 := by omega
          have hJw : JarAt wr.drew g s gen keep := hJ0.below' (hB.drew)
          have hrw : RB wr.drew A 44 c (bs.take 44) := (hr0.below hB.drew).pre 44 (by omega)
          have hRw : Rdr wr.drew p q bs (12 + 8 * 4) := hR.below (Below.refl _ _).drew
          have hcI : (44 : Int) ≤ (c : Int) := by omega
          have hcJ : (c : Int) ≤ 9223372036854775807 := by omega
          have q4 : tagLb.length ≤ 1000 := by simp [tagLb]
          go_upto_region 18 with (fail)
          go_cut [75] (fun t wx => t = .bool (mac (dkey s N tagLb 1) (dkey s N tagLb 2) (bs.take 44) != ckTag bs) ∧ Blk wx w3.heap.size 51 (numAt (ckNum bs) 4) ∧ Below wA.heap.size wA wx)
          case first =>
            go_region_held3 (fun _ => True) (trivial)
              (first
                | (go_at_call 26; refine (derived_any g s gen keep N tagLb wr.drew hJw hNG q4).mono ?_; rintro e w5 ⟨rfl, hB5⟩)
                | (go_at_call 25; refine (tag_any _ _ A 44 c (bs.take 44) w5 (hrw.below hB5)).mono ?_; rintro e w6 ⟨rfl, hB6⟩)
                | (go_at_call 31; refine (uintTag_any p q bs w6 ((hRw.below hB5).below hB6) Hl.out).mono ?_; rintro e w7 ⟨rfl, hG7⟩))
            have hB5' := below_step hB.drew hB5 hB.size
            have hB6' := below_step hB5' hB6 hB5'.size
            have hB7 := hB6'.grown hG7 hB6'.size (by rintro k ⟨rfl⟩; exact Hp.out)
            have hb7 : Blk w7 w3.heap.size 51 (numAt (ckNum bs) 4) := (((show Blk wr.drew w3.heap.size 51 (numAt (ckNum bs) 4) from hb).below' hB5).below' hB6).grown hG7 (by simp; omega)
            go_wp2_with fail
            go_meet
            exact ⟨rfl, hb7, hB7⟩
          case rest =>
          obtain ⟨rfl, hb7, hB7⟩ := hcut
          obtain ⟨w7, hw7⟩ : ∃ w7, w7 = wc := ⟨_, rfl⟩
          subst hw7
          have hJ7 : JarAt w7 g s gen keep := hJ0.below' hB7
          have hu7 := H2.1.keep hB7
          have hv7 := H2.2.1.keep hB7
          clear hB hR hb hJw hrw hRw hB4 hR4 hb4
          have u0 := hu7.c0
          have u1 := hu7.c1
          have u2 := hu7.f0
          have u3 := hu7.f1
          have v0 := hv7.c0
          have v1 := hv7.c1
          have v2 := hv7.f0
          have v3 := hv7.f1
          by_cases htag : mac (dkey s N tagLb 1) (dkey s N tagLb 2) (bs.take 44) = ckTag bs
          · have Hres := hide (show openRes s gen keep bs = .tuple #[.agg #[.int .u64 (hid (ckNum bs) s N (ckNonce bs) 0), .int .u64 (hid (ckNum bs) s N (ckNonce bs) 1)], .agg #[.int .u64 (hid (ckNum bs) s N (ckNonce bs) 2), .int .u64 (hid (ckNum bs) s N (ckNonce bs) 3)], .int .i64 0] from by
              unfold openRes
              rw [if_neg Hin.out, ← HN.out, if_pos htag])
            have ht : (mac (dkey s N tagLb 1) (dkey s N tagLb 2) (bs.take 44) != ckTag bs) = false := by simpa using htag
            clear htag
            have c0 := hb7.cell 0
            have c1 := hb7.cell 1
            have c2 := hb7.cell 2
            have c3 := hb7.cell 3
            rw [show numAt (ckNum bs) 4 = [.int .u64 (ckNum bs 0), .int .u64 (ckNum bs 1), .int .u64 (ckNum bs 2), .int .u64 (ckNum bs 3)] from rfl] at c0 c1 c2 c3
            simp only [List.getElem?_cons_zero, List.getElem?_cons_succ] at c0 c1 c2 c3
            go_upto_region 20 with (fail)
            go_cut [10] (fun t wx => t = .pointer (some ⟨w3.heap.size, 0, none⟩) ∧ Blk wx w3.heap.size 51 [.int .u64 (hid (ckNum bs) s N (ckNonce bs) 0), .int .u64 (hid (ckNum bs) s N (ckNonce bs) 1), .int .u64 (hid (ckNum bs) s N (ckNonce bs) 2), .int .u64 (hid (ckNum bs) s N (ckNonce bs) 3)] ∧ Below wA.heap.size wA wx)
            case first =>
              go_wp2_with fail
              refine (mask_any g s gen keep N (ckNonce bs) (ckNum bs) w7 hJ7 hNG).mono ?_
              rintro e w8 ⟨rfl, hB8⟩
              have hb8 := hb7.below' hB8
              have hB8' := below_step hB7 hB8 hB7.size
              rw [show numAt (ckNum bs) 4 = [.int .u64 (ckNum bs 0), .int .u64 (ckNum bs 1), .int .u64 (ckNum bs 2), .int .u64 (ckNum bs 3)] from rfl] at hb8
              clear c0 c1 c2 c3 u0 u1 u2 u3 v0 v1 v2 v3 hb7 hB8 hu7 hv7
              have c0 := hb8.cell 0
              have c1 := hb8.cell 1
              have c2 := hb8.cell 2
              have c3 := hb8.cell 3
              have f0 := hb8.frozen 0
              have f1 := hb8.frozen 1
              have f2 := hb8.frozen 2
              have f3 := hb8.frozen 3
              simp only [List.getElem?_cons_zero, List.getElem?_cons_succ] at c0 c1 c2 c3
              have hb9 := (((hb8.set_ 0 (.int .u64 (hid (ckNum bs) s N (ckNonce bs) 0))).set_ 1 (.int .u64 (hid (ckNum bs) s N (ckNonce bs) 1))).set_ 2 (.int .u64 (hid (ckNum bs) s N (ckNonce bs) 2))).set_ 3 (.int .u64 (hid (ckNum bs) s N (ckNonce bs) 3))
              have hB9 := (((hB8'.setCell (p := ⟨w3.heap.size, 0, none⟩) hsz3 (.int .u64 (hid (ckNum bs) s N (ckNonce bs) 0))).setCell (p := ⟨w3.heap.size, 1, none⟩) hsz3 (.int .u64 (hid (ckNum bs) s N (ckNonce bs) 1))).setCell (p := ⟨w3.heap.size, 2, none⟩) hsz3 (.int .u64 (hid (ckNum bs) s N (ckNonce bs) 2))).setCell (p := ⟨w3.heap.size, 3, none⟩) hsz3 (.int .u64 (hid (ckNum bs) s N (ckNonce bs) 3))
              go_wp2_with fail
              go_meet
              exact ⟨rfl, hb9, hB9⟩
            case rest =>
            obtain ⟨rfl, hb9, hB9⟩ := hcut
            obtain ⟨w9, hw9⟩ : ∃ w9, w9 = wc := ⟨_, rfl⟩
            subst hw9
            clear c0 c1 c2 c3 u0 u1 u2 u3 v0 v1 v2 v3 hu7 hv7 ht
            generalize hid (ckNum bs) s N (ckNonce bs) 0 = y0 at *
            generalize hid (ckNum bs) s N (ckNonce bs) 1 = y1 at *
            generalize hid (ckNum bs) s N (ckNonce bs) 2 = y2 at *
            generalize hid (ckNum bs) s N (ckNonce bs) 3 = y3 at *
            have d0 := hb9.cell 0
            have d1 := hb9.cell 1
            have d2 := hb9.cell 2
            have d3 := hb9.cell 3
            simp only [List.getElem?_cons_zero, List.getElem?_cons_succ] at d0 d1 d2 d3
            have hu9 := H2.1.keep hB9
            have hv9 := H2.2.1.keep hB9
            have HB9 := hide hB9
            have u0 := hu9.c0
            have u1 := hu9.c1
            have u2 := hu9.f0
            have u3 := hu9.f1
            have v0 := hv9.c0
            have v1 := hv9.c1
            have v2 := hv9.f0
            have v3 := hv9.f1
            have Hk := hide (four_k (W := w9) ⟨u0, u1, u2, u3⟩ ⟨v0, v1, v2, v3⟩ (Nat.ne_of_lt (Nat.lt_succ_self _)) (.int .u64 y0) (.int .u64 y1) (.int .u64 y2) (.int .u64 y3))
            have n1 : w3.heap.size ≠ w.heap.size := by have := Hsz.out; omega
            have n2 : w3.heap.size ≠ w.heap.size + 1 := by have := Hsz.out; omega
            have hS := four_cells d0 d1 d2 d3
            go_wp2
            go_region_held3 (fun w' => w'.cell? ⟨w3.heap.size, 0, none⟩ = some (.int .u64 y0) ∧ w'.cell? ⟨w3.heap.size, 1, none⟩ = some (.int .u64 y1) ∧ w'.cell? ⟨w3.heap.size, 2, none⟩ = some (.int .u64 y2) ∧ w'.cell? ⟨w3.heap.size, 3, none⟩ = some (.int .u64 y3))
              (first | exact hS | exact four_keep hS n1 | exact four_keep hS n2 | exact four_keep (four_keep hS n1) n2) (fail)
            go_wp2
            refine bodyPost_ret (v := .tuple #[.agg #[.int .u64 y0, .int .u64 y1], .agg #[.int .u64 y2, .int .u64 y3], .int .i64 0]) (by simp [results, Try.results16, go_sem, Hk.out.1, Hk.out.2.1, Hk.out.2.2.1, Hk.out.2.2.2]) rfl ⟨by rw [Hres.out], ?_⟩
            exact (four_below (below_step H2.2.2 HB9.out H2.2.2.size) _ _ _ _).drew
          · have Hres := hide (show openRes s gen keep bs = .tuple #[zero2, zero2, .int .i64 16] from by
              unfold openRes
              rw [if_neg Hin.out, ← HN.out, if_neg htag])
            have ht : (mac (dkey s N tagLb 1) (dkey s N tagLb 2) (bs.take 44) != ckTag bs) = true := by simpa using htag
            clear htag
            have Hk := hide (four_k hu7 hv7 (Nat.ne_of_lt (Nat.lt_succ_self _)) (.int .u64 0) (.int .u64 0) (.int .u64 0) (.int .u64 0))
            go_wp2
            refine bodyPost_ret (v := .tuple #[zero2, zero2, .int .i64 16]) (by simp [results, Try.results16, go_sem, zero2, Hk.out.1, Hk.out.2.1, Hk.out.2.2.1, Hk.out.2.2.2]) rfl ⟨by rw [Hres.out], ?_⟩
            exact four_below (below_step H2.2.2 hB7 H2.2.2.size) _ _ _ _
end Go.Proofs.Ytdgjbaeflbggpaa
