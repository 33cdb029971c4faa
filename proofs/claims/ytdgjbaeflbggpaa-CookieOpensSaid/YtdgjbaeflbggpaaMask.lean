/- The pads and tags of cookies.
  SEATS: cookie guard -/
import Derived.Test.YtdgjbaeflbggpaaDerived
import Derived.Deep.RegionLaw
namespace Go.Proofs.Ytdgjbaeflbggpaa
open Go.RowKit
set_option linter.unusedVariables false

def padLb : List UInt8 := [112, 97, 100]
def tagLb : List UInt8 := [116, 97, 103]
/-- The number with which number i is hidden. -/
def padN (s : Int) (g : Nat) (nonce : Int) (i : Nat) : Int := mix (mix (dkey s g padLb 1) nonce) ((i : Int) + 1)
def hid (x : Nat → Int) (s : Int) (g : Nat) (nonce : Int) (i : Nat) : Int := bits .xor .u64 (x i) (padN s g nonce i)
def hidAt (x : Nat → Int) (s : Int) (g : Nat) (nonce : Int) (k : Nat) : List Value := (List.range 4).map fun j => .int .u64 (if j < k then hid x s g nonce j else x j)

theorem hidAt_get (x : Nat → Int) (s : Int) (g : Nat) (nonce : Int) (k : Nat) (hk : k < 4) : (hidAt x s g nonce k)[k]? = some (.int .u64 (x k)) := by
  simp [hidAt, List.getElem?_range hk]
theorem hidAt_set (x : Nat → Int) (s : Int) (g : Nat) (nonce : Int) (k : Nat) (hk : k < 4) : (hidAt x s g nonce k).set k (.int .u64 (hid x s g nonce k)) = hidAt x s g nonce (k + 1) := by
  rcases (show k = 0 ∨ k = 1 ∨ k = 2 ∨ k = 3 by omega) with rfl | rfl | rfl | rfl <;> rfl

theorem label_rb (w : World) (lb : List UInt8) {n : Nat} (hn : lb.length = n) (c : Nat) (fz : Nat × Nat) (hc : n ≤ c) (hm : c ≤ 9223372036854775807) : RB (w.alloc (.cells (BV lb).toArray 5 fz)) (some ⟨w.heap.size, 0, none⟩) n c lb :=
  RB.row (heap_alloc_new w _) (fun j u hu => by simpa using hu) hn hc hm

set_option maxHeartbeats 1000000 in
theorem pad_any (g : Nat) (s : Int) (gen keep G i : Nat) (nonce : Int) (w : World) (h : RefAt w g s gen keep) (hG : G ≤ 2147483647) (hi : i ≤ 100) :
    Calls Try.prog 28 #[.pointer (some ⟨g, 0, none⟩), .int .i64 (G : Nat), .int .u64 nonce, .int .i64 (i : Nat)] w fun e w' => e = .returned (.int .u64 (padN s G nonce i)) ∧ Below w.heap.size w w' := by
  have kc := fun (w : World) (C : Array Value) (n c : Nat) => Lib.run_convert_bytes_const (P := Try.prog) w 30 5 C n c Try.underlying30 Try.underlying5
  have i0 : ∀ (u v : Value) (w : World), (Instr.index 24 (.agg #[u, v]) (.int .i64 0)).run Try.prog w = .ok u w := fun _ _ _ => by kernel_rfl
  go_enter Try.func28, Try.ntmps28
  go_wp2_with fail
  refine (master_any g s gen keep G w h hG).mono ?_
  rintro e w1 ⟨rfl, hB1⟩
  go_wp2_with fail
  have hB1' : Below w.heap.size w (w1.alloc (.cells #[.int .u8 112, .int .u8 97, .int .u8 100] 5 (3, 4))) := hB1.alloc hB1.size _
  refine (refDerive_any _ _ _ 3 3 padLb _ (label_rb w1 padLb (n := 3) rfl 3 (3, 4) (Nat.le_refl _) (by omega)) (by omega)).mono ?_
  rintro e w2 ⟨rfl, hB2⟩
  have hB2' := below_step hB1' hB2 hB1'.size
  clear hB1 hB1' hB2
  have g1 : ((i : Int) + 1) % 18446744073709551616 = (i : Int) + 1 := by omega
  go_wp2_with (go_at_call 40; refine (refMix_any _ _ _).mono ?_; rintro e w3 ⟨rfl, rfl⟩)
  go_ret
  exact ⟨rfl, hB2'⟩

set_option maxHeartbeats 1000000 in
theorem tagOf_any (g : Nat) (s : Int) (gen keep G : Nat) (A : Option Addr) (m c : Nat) (bs : List UInt8) (w : World) (h : RefAt w g s gen keep) (hG : G ≤ 2147483647) (hr : RB w A m c bs) (hm : m ≤ 70368744177664) :
    Calls Try.prog 29 #[.pointer (some ⟨g, 0, none⟩), .int .i64 (G : Nat), .slice A m c] w fun e w' => e = .returned (.int .u64 (mac (dkey s G tagLb 1) (dkey s G tagLb 2) bs)) ∧ Below w.heap.size w w' := by
  have kc := fun (w : World) (C : Array Value) (n c : Nat) => Lib.run_convert_bytes_const (P := Try.prog) w 30 5 C n c Try.underlying30 Try.underlying5
  go_enter Try.func29, Try.ntmps29
  go_wp2_with fail
  refine (master_any g s gen keep G w h hG).mono ?_
  rintro e w1 ⟨rfl, hB1⟩
  go_wp2_with fail
  have hB1' : Below w.heap.size w (w1.alloc (.cells #[.int .u8 116, .int .u8 97, .int .u8 103] 5 (3, 4))) := hB1.alloc hB1.size _
  refine (refDerive_any _ _ _ 3 3 tagLb _ (label_rb w1 tagLb (n := 3) rfl 3 (3, 4) (Nat.le_refl _) (by omega)) (by omega)).mono ?_
  rintro e w2 ⟨rfl, hB2⟩
  have hB2' := below_step hB1' hB2 hB1'.size
  clear hB1 hB1' hB2
  go_wp2_with fail
  refine (refTag_any _ _ A m c bs _ (hr.below hB2') hm).mono ?_
  rintro e w3 ⟨rfl, hB3⟩
  go_wp2
  go_ret
  exact ⟨rfl, below_step hB2' hB3 hB2'.size⟩

set_option maxHeartbeats 2000000 in
theorem mask_any (g : Nat) (s : Int) (gen keep G : Nat) (nonce : Int) (x : Nat → Int) (w : World) (h : JarAt w g s gen keep) (hG : G ≤ 2147483647) :
    Calls Try.prog 24 #[.pointer (some ⟨g, 0, none⟩), .int .i64 (G : Nat), .int .u64 nonce, .agg #[.int .u64 (x 0), .int .u64 (x 1), .int .u64 (x 2), .int .u64 (x 3)]] w fun e w' =>
      e = .returned (.agg #[.int .u64 (hid x s G nonce 0), .int .u64 (hid x s G nonce 1), .int .u64 (hid x s G nonce 2), .int .u64 (hid x s G nonce 3)]) ∧ Below w.heap.size w w' := by
  have i0 : ∀ (u v : Value) (w : World), (Instr.index 24 (.agg #[u, v]) (.int .i64 0)).run Try.prog w = .ok u w := fun _ _ _ => by kernel_rfl
  go_enter Try.func24, Try.ntmps24
  have hA1 := ((Below.refl w.heap.size w).alloc (Nat.le_refl _) (.cells #[.int .u64 (x 0), .int .u64 (x 1), .int .u64 (x 2), .int .u64 (x 3)] 51)).alloc (by simp) (.cells #[.int .u64 0, .int .u64 0, .int .u64 0, .int .u64 0] 51)
  have hbK : Blk ((w.alloc (.cells #[.int .u64 (x 0), .int .u64 (x 1), .int .u64 (x 2), .int .u64 (x 3)] 51)).alloc (.cells #[.int .u64 0, .int .u64 0, .int .u64 0, .int .u64 0] 51)) w.heap.size 51 (hidAt x s G nonce 0) := (Blk.new w 51 [.int .u64 (x 0), .int .u64 (x 1), .int .u64 (x 2), .int .u64 (x 3)]).alloc _
  have hbR : Blk ((w.alloc (.cells #[.int .u64 (x 0), .int .u64 (x 1), .int .u64 (x 2), .int .u64 (x 3)] 51)).alloc (.cells #[.int .u64 0, .int .u64 0, .int .u64 0, .int .u64 0] 51)) (w.heap.size + 1) 51 [.int .u64 0, .int .u64 0, .int .u64 0, .int .u64 0] := by
    have := Blk.new (w.alloc (.cells #[.int .u64 (x 0), .int .u64 (x 1), .int .u64 (x 2), .int .u64 (x 3)] 51)) 51 [.int .u64 0, .int .u64 0, .int .u64 0, .int .u64 0]
    simpa using this
  go_wp2_with fail
  refine (derived_any g s gen keep G padLb _ ((h.alloc _).alloc _) hG (by simp [padLb])).mono ?_
  rintro e w1 ⟨rfl, hB1⟩
  have hbK1 := hbK.below' hB1
  have hbR1 := hbR.below' hB1
  have hW1 := below_step hA1 hB1 hA1.size
  clear hB1 hbK hbR hA1
  go_wp2_with (go_at_call 34; refine (mix_any _ _ _).mono ?_; rintro e w2 ⟨rfl, hB2⟩)
  have hbK2 := hbK1.below' hB2
  have hbR2 := hbR1.below' hB2
  have hW2 := below_step hW1 hB2 hW1.size
  clear hB2 hbK1 hbR1 hW1
  go_loopw [17] (fun iv wr => ∃ k : Nat, k ≤ 4 ∧ iv = .int .i64 k ∧ Blk wr w.heap.size 51 (hidAt x s G nonce k) ∧ Blk wr (w.heap.size + 1) 51 [.int .u64 0, .int .u64 0, .int .u64 0, .int .u64 0] ∧ Below w.heap.size w wr) (fun iv _ => 4 - (intOf iv).toNat)
  case atStart => exact ⟨0, by omega, rfl, hbK2, hbR2, hW2⟩
  case round =>
    obtain ⟨k, hk, rfl, hbK, hbR, hW⟩ := hrel
    by_cases hlt : k < 4
    · have hc0 := hbK.cell k
      rw [hidAt_get x s G nonce k hlt] at hc0
      have hf0 := hbK.frozen k
      have g4 : IntKind.u64.wrap ((k : Int) + 1) = (k : Int) + 1 := by rw [IntKind.wrap_u64]; omega
      have hkI : (k : Int) < 4 := by omega
      go_wp2
      go_region_law (first | (go_simp; go_at_call 34; refine (mix_any _ _ _).mono ?_; rintro e w3 ⟨rfl, hB3⟩; have j0 := cell_keep hB3 hc0; have j1 := frozen_keep hB3 hc0 hf0))
      all_goals
        have hsz := hW.size
        have hB3 : Below wr.heap.size wr w3 := (Below.refl _ wr).drew.trans hB3
        have hb3 := (hbK.below' (w' := w3) hB3).set_ k (.int .u64 (hid x s G nonce k))
        rw [hidAt_set x s G nonce k hlt] at hb3
        have hr3 := (hbR.below' (w' := w3) hB3).far (p := ⟨w.heap.size, k, none⟩) (by simp) (.int .u64 (hid x s G nonce k))
        have hW3 : Below w.heap.size w w3 := below_step hW hB3 hW.size
        go_wp2
        exact ⟨⟨k + 1, by omega, by go_num, hb3, hr3, hW3.setCell (Nat.le_refl _) _⟩, by simp [intOf]; omega⟩
    · obtain rfl : k = 4 := by omega
      have c0 := hbK.cell 0
      have c1 := hbK.cell 1
      have c2 := hbK.cell 2
      have c3 := hbK.cell 3
      have d0 := hbR.cell 0
      have d1 := hbR.cell 1
      have d2 := hbR.cell 2
      have d3 := hbR.cell 3
      have f0 := hbR.frozen 0
      have f1 := hbR.frozen 1
      have f2 := hbR.frozen 2
      have f3 := hbR.frozen 3
      have hb3 := ((((hbR.set_ 0 (.int .u64 (hid x s G nonce 0))).set_ 1 (.int .u64 (hid x s G nonce 1))).set_ 2 (.int .u64 (hid x s G nonce 2))).set_ 3 (.int .u64 (hid x s G nonce 3)))
      have k0 := hb3.cell 0
      have k1 := hb3.cell 1
      have k2 := hb3.cell 2
      have k3 := hb3.cell 3
      rw [show hidAt x s G nonce 4 = [.int .u64 (hid x s G nonce 0), .int .u64 (hid x s G nonce 1), .int .u64 (hid x s G nonce 2), .int .u64 (hid x s G nonce 3)] from rfl] at c0 c1 c2 c3
      simp only [List.set_cons_zero, List.set_cons_succ, List.getElem?_cons_zero, List.getElem?_cons_succ] at c0 c1 c2 c3 d0 d1 d2 d3 k0 k1 k2 k3
      go_wp2
      refine bodyPost_ret (v := .agg #[.int .u64 (hid x s G nonce 0), .int .u64 (hid x s G nonce 1), .int .u64 (hid x s G nonce 2), .int .u64 (hid x s G nonce 3)]) (by simp [results, Try.results24, go_sem, k0, k1, k2, k3]) rfl ⟨rfl, ?_⟩
      exact (((hW.setCell (by simp) _).setCell (by simp) _).setCell (by simp) _).setCell (by simp) _
end Go.Proofs.Ytdgjbaeflbggpaa
