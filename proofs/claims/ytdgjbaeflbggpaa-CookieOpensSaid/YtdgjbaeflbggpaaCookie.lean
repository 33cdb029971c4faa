/- The keys that a jar derives.
  SEATS: cookie guard -/
import Derived.Test.YtdgjbaeflbggpaaTag
import Derived.Deep.RegionHeld3
import Derived.IntWalk
import Derived.Laws.IdiomStrings
import Derived.Lib.SlBytesConst
namespace Go.Proofs.Ytdgjbaeflbggpaa
open Go.RowKit
set_option linter.unusedVariables false

theorem RB.row {w : World} {g e : Nat} {C : Array Value} {fz : Nat × Nat} {bs : List UInt8} {n c : Nat} (h : w.heap[g]? = some (.cells C e fz)) (hC : ∀ (j : Nat) (u : Value), (BV bs)[j]? = some u → C[j]? = some u) (hn : bs.length = n) (hc : n ≤ c) (hm : c ≤ 9223372036854775807) : RB w (some ⟨g, 0, none⟩) n c bs :=
  ⟨hn, hc, hm, fun _ => ⟨g, 0, rfl, (Array.getElem?_eq_some_iff.1 h).1, fun j u hu => by
    have := cell_of_row w g j C e fz h
    rw [Nat.zero_add, this]
    exact hC j u hu⟩⟩

theorem derive_any (a b : Int) (A : Option Addr) (m c : Nat) (bs : List UInt8) (w : World) (h : RB w A m c bs) :
    Calls Try.prog 36 #[.agg #[.int .u64 a, .int .u64 b], .slice A m c] w fun e w' => e = .returned (.agg #[.int .u64 (mix (mac a b bs) 1), .int .u64 (mix (mac a b bs) 2)]) ∧ Below w.heap.size w w' := by
  have hr := (h.alloc (.cells #[.int .u64 a, .int .u64 b] 24)).alloc (.cells #[.int .u64 0, .int .u64 0] 24)
  have hA1 := ((Below.refl w.heap.size w).alloc (Nat.le_refl _) (.cells #[.int .u64 a, .int .u64 b] 24)).alloc (by simp) (.cells #[.int .u64 0, .int .u64 0] 24)
  have hb1 : Blk ((w.alloc (.cells #[.int .u64 a, .int .u64 b] 24)).alloc (.cells #[.int .u64 0, .int .u64 0] 24)) (w.heap.size + 1) 24 [.int .u64 0, .int .u64 0] := by
    have := Blk.new (w.alloc (.cells #[.int .u64 a, .int .u64 b] 24)) 24 [.int .u64 0, .int .u64 0]
    simpa using this
  go_enter Try.func36, Try.ntmps36
  go_wp2_with fail
  refine (tag_any a b A m c bs _ hr).mono ?_
  rintro e w1 ⟨rfl, hB1⟩
  have hB1' : Below w.heap.size w w1 := below_step hA1 hB1 hA1.size
  have hb2 := hb1.below' hB1
  clear hA1 hB1 hb1
  go_wp2_with fail
  refine (mix_any _ _ _).mono ?_
  rintro e w2 ⟨rfl, hB2⟩
  have hB2' := below_step hB1' hB2 hB1'.size
  have hb3 := hb2.below' hB2
  clear hB1' hB2 hb2
  go_wp2_with fail
  refine (mix_any _ _ _).mono ?_
  rintro e w3 ⟨rfl, hB3⟩
  have hB3' := below_step hB2' hB3 hB2'.size
  have hb4 := hb3.below' hB3
  have h4 := hb4.cell 0
  have h5 := hb4.cell 1
  simp only [List.getElem?_cons_zero, List.getElem?_cons_succ] at h4 h5
  have f4 := hb4.frozen 0
  have f5 := hb4.frozen 1
  clear hB2' hB3 hb3
  go_wp2
  have hb6 := (hb4.set_ 0 (.int .u64 (mix (mac a b bs) 1))).set_ 1 (.int .u64 (mix (mac a b bs) 2))
  have k0 := hb6.cell 0
  have k1 := hb6.cell 1
  simp only [List.set_cons_zero, List.set_cons_succ, List.getElem?_cons_zero, List.getElem?_cons_succ] at k0 k1
  refine bodyPost_ret (v := .agg #[.int .u64 (mix (mac a b bs) 1), .int .u64 (mix (mac a b bs) 2)]) (by simp [results, Try.results36, go_sem, k0, k1]) rfl ⟨rfl, ?_⟩
  exact (hB3'.setCell (by simp) _).setCell (by simp) _
theorem refDerive_any (a b : Int) (A : Option Addr) (m c : Nat) (bs : List UInt8) (w : World) (h : RB w A m c bs) (hm : m ≤ 70368744177664) :
    Calls Try.prog 38 #[.agg #[.int .u64 a, .int .u64 b], .slice A m c] w fun e w' => e = .returned (.agg #[.int .u64 (mix (mac a b bs) 1), .int .u64 (mix (mac a b bs) 2)]) ∧ Below w.heap.size w w' := by
  have hr := (h.alloc (.cells #[.int .u64 a, .int .u64 b] 24)).alloc (.cells #[.int .u64 0, .int .u64 0] 24)
  have hA1 := ((Below.refl w.heap.size w).alloc (Nat.le_refl _) (.cells #[.int .u64 a, .int .u64 b] 24)).alloc (by simp) (.cells #[.int .u64 0, .int .u64 0] 24)
  have hb1 : Blk ((w.alloc (.cells #[.int .u64 a, .int .u64 b] 24)).alloc (.cells #[.int .u64 0, .int .u64 0] 24)) (w.heap.size + 1) 24 [.int .u64 0, .int .u64 0] := by
    have := Blk.new (w.alloc (.cells #[.int .u64 a, .int .u64 b] 24)) 24 [.int .u64 0, .int .u64 0]
    simpa using this
  go_enter Try.func38, Try.ntmps38
  go_wp2_with fail
  refine (refTag_any a b A m c bs _ hr hm).mono ?_
  rintro e w1 ⟨rfl, hB1⟩
  have hB1' : Below w.heap.size w w1 := below_step hA1 hB1 hA1.size
  have hb2 := hb1.below' hB1
  clear hA1 hB1 hb1
  go_wp2_with fail
  refine (refMix_any _ _ _).mono ?_
  rintro e w2 ⟨rfl, rfl⟩
  go_wp2_with fail
  refine (refMix_any _ _ _).mono ?_
  rintro e w3 ⟨rfl, rfl⟩
  have hb4 := hb2
  have hB3' := hB1'
  have h4 := hb4.cell 0
  have h5 := hb4.cell 1
  simp only [List.getElem?_cons_zero, List.getElem?_cons_succ] at h4 h5
  have f4 := hb4.frozen 0
  have f5 := hb4.frozen 1
  go_wp2
  have hb6 := (hb4.set_ 0 (.int .u64 (mix (mac a b bs) 1))).set_ 1 (.int .u64 (mix (mac a b bs) 2))
  have k0 := hb6.cell 0
  have k1 := hb6.cell 1
  simp only [List.set_cons_zero, List.set_cons_succ, List.getElem?_cons_zero, List.getElem?_cons_succ] at k0 k1
  refine bodyPost_ret (v := .agg #[.int .u64 (mix (mac a b bs) 1), .int .u64 (mix (mac a b bs) 2)]) (by simp [results, Try.results38, go_sem, k0, k1]) rfl ⟨rfl, ?_⟩
  exact (hB3'.setCell (by simp) _).setCell (by simp) _

/-- A jar of the program, and one of the reference. -/
def JarAt (w : World) (g : Nat) (s : Int) (gen keep : Nat) : Prop := Blk w g 50 [.int .u64 s, .int .i64 gen, .int .i64 keep]
def RefAt (w : World) (g : Nat) (s : Int) (gen keep : Nat) : Prop := Blk w g 56 [.int .u64 s, .int .i64 keep, .int .i64 gen]

/-- A number of the key that is derived for a label in a generation. -/
def dkey (s : Int) (g : Nat) (lb : List UInt8) (i : Int) : Int := mix (mac (mix s (2 * (g : Int))) (mix s (2 * (g : Int) + 1)) lb) i
theorem dkey_range (s : Int) (g : Nat) (lb : List UInt8) (i : Int) : 0 ≤ dkey s g lb i ∧ dkey s g lb i ≤ 18446744073709551615 := mix_range _ _

set_option maxHeartbeats 1000000 in
theorem master_any (g : Nat) (s : Int) (gen keep G : Nat) (w : World) (h : RefAt w g s gen keep) (hG : G ≤ 2147483647) :
    Calls Try.prog 39 #[.pointer (some ⟨g, 0, none⟩), .int .i64 (G : Nat)] w fun e w' => e = .returned (.agg #[.int .u64 (mix s (2 * (G : Int))), .int .u64 (mix s (2 * (G : Int) + 1))]) ∧ Below w.heap.size w w' := by
  have h1 := (h.alloc (.cells #[.int .u64 0, .int .u64 0] 24)).cell 0
  have hA6 : ∀ C, Below w.heap.size w (w.alloc (.cells C 24)) := fun C => (Below.refl w.heap.size w).alloc (Nat.le_refl _) _
  have hA1 := ((Below.refl w.heap.size w).alloc (Nat.le_refl _) (.cells #[.int .u64 0, .int .u64 0] 24))
  have hb1 := (Blk.new w 24 [.int .u64 0, .int .u64 0])
  have h4 := hb1.cell 0
  have h5 := hb1.cell 1
  have f4 := hb1.frozen 0
  have f5 := hb1.frozen 1
  simp only [List.getElem?_cons_zero, List.getElem?_cons_succ] at h1 h4 h5
  have hS : ∀ o, (w.alloc o).cell? ⟨g, 0, none⟩ = some (.int .u64 s) := fun o => by
    have := (h.alloc o).cell 0
    simpa using this
  have g3 : IntKind.i64.wrap (2 * (G : Int)) = 2 * G := IntWalk.i64_in _ (by omega)
  have g4 : IntKind.i64.wrap (2 * (G : Int) + 1) = 2 * G + 1 := IntWalk.i64_in _ (by omega)
  have g5 : IntKind.u64.wrap (2 * (G : Int)) = (2 * (G : Int)) := by rw [IntKind.wrap_u64]; omega
  have g6 : IntKind.u64.wrap (2 * (G : Int) + 1) = (2 * (G : Int) + 1) := by rw [IntKind.wrap_u64]; omega
  go_enter Try.func39, Try.ntmps39
  go_wp2
  go_region_held3 (fun w' => w'.cell? ⟨g, 0, none⟩ = some (.int .u64 s))
    (first | exact h1 | exact hS _ | simp [go_sem])
    (first
      | (go_at_call 40; refine (refMix_any _ _ _).mono ?_; rintro e w2 ⟨rfl, rfl⟩))
  go_wp2
  have hb6 := hA6 #[.int .u64 (mix s (2 * (G : Int))), .int .u64 (mix s (2 * (G : Int) + 1))]
  refine bodyPost_ret (v := .agg #[.int .u64 (mix s (2 * (G : Int))), .int .u64 (mix s (2 * (G : Int) + 1))]) (by simp [results, Try.results39, go_sem]) rfl ⟨rfl, hb6.drew⟩

theorem cell_alloc {w : World} {p : Addr} {v : Value} (h : w.cell? p = some v) (o : Obj) : (w.alloc o).cell? p = some v := Lib.cell?_alloc_marked o h

theorem cell_lt {w : World} {p : Addr} {v : Value} (h : w.cell? p = some v) : p.block < w.heap.size := by
  rcases Nat.lt_or_ge p.block w.heap.size with h' | h'
  · exact h'
  · exfalso
    unfold World.cell? at h
    rw [Array.getElem?_eq_none h'] at h
    cases h
theorem cell_drew {w : World} {p : Addr} {v : Value} (h : w.cell? p = some v) : w.drew.cell? p = some v := h
theorem cell_keep {w w' : World} {p : Addr} {v : Value} (hB : Below w.heap.size w w') (h : w.cell? p = some v) : w'.cell? p = some v := (hB.cell (cell_lt h)).trans h

theorem cell_set {w : World} {g g' i i' : Nat} {v u : Value} (h : w.cell? ⟨g, i, none⟩ = some v) (hne : g ≠ g') : (w.setCell ⟨g', i', none⟩ u).cell? ⟨g, i, none⟩ = some v :=
  (World.cell?_of_block (w := w) (a := ⟨g, i, none⟩) (Below.heap_setCell w ⟨g', i', none⟩ u g hne)).trans h
theorem frozen_keep {w w' : World} {p : Addr} {v : Value} (hB : Below w.heap.size w w') (h : w.cell? p = some v) (f : w.frozen? p = false) : w'.frozen? p = false := (hB.frozen (cell_lt h)).trans f
theorem key_new (W : World) : Blk (W.alloc (.cells #[.int .u64 0, .int .u64 0] 24)) W.heap.size 24 [.int .u64 0, .int .u64 0] := Blk.new W _ _
/-- The two cells of a new key. -/
structure Key0 (w : World) (g : Nat) : Prop where
  c0 : w.cell? ⟨g, 0, none⟩ = some (.int .u64 0)
  c1 : w.cell? ⟨g, 1, none⟩ = some (.int .u64 0)
  f0 : w.frozen? ⟨g, 0, none⟩ = false
  f1 : w.frozen? ⟨g, 1, none⟩ = false
theorem Key0.new (W : World) : Key0 (W.alloc (.cells #[.int .u64 0, .int .u64 0] 24)) W.heap.size :=
  ⟨(key_new W).cell 0, (key_new W).cell 1, (key_new W).frozen 0, (key_new W).frozen 1⟩
theorem Key0.keep {w w' : World} {g : Nat} (h : Key0 w g) (hB : Below w.heap.size w w') : Key0 w' g :=
  ⟨cell_keep hB h.c0, cell_keep hB h.c1, frozen_keep hB h.c0 h.f0, frozen_keep hB h.c1 h.f1⟩

/-- A walk goes on from whatever world has what the rest asks. -/
theorem gen_world {C : Act → World → Prop} {a : Act} {w : World} (P : World → Prop) (hP : P w) (h : ∀ W, P W → C a W) : C a w := h w hP
theorem Key0.setTwo {w : World} {g g' : Nat} {u v : Value} (h : Key0 w g') (hg : Key0 w g) (hne : g ≠ g') : Key0 ((w.setCell ⟨g', 0, none⟩ u).setCell ⟨g', 1, none⟩ v) g := by
  have key (w : World) (i : Nat) (u : Value) (h : Key0 w g) : Key0 (w.setCell ⟨g', i, none⟩ u) g :=
    ⟨cell_set h.c0 hne, cell_set h.c1 hne, (World.frozen?_of_block (w := w) (a := ⟨g, 0, none⟩) (Below.heap_setCell w ⟨g', i, none⟩ u g hne)).trans h.f0, (World.frozen?_of_block (w := w) (a := ⟨g, 1, none⟩) (Below.heap_setCell w ⟨g', i, none⟩ u g hne)).trans h.f1⟩
  exact key _ _ _ (key _ _ _ hg)
/-- A key that has been written into a new block: what the rest asks. -/
structure KeyIn (w : World) (b : Nat) (u v : Value) (W : World) : Prop where
  below : Below w.heap.size w W
  c0 : W.cell? ⟨b, 0, none⟩ = some u
  c1 : W.cell? ⟨b, 1, none⟩ = some v
  res : Key0 W w.heap.size

theorem bytesRow_rb {w : World} {g e : Nat} {lb : List UInt8} {cap : Nat} {fz : Nat × Nat} (h : w.heap[g]? = some (.cells (bytesRow ⟨lb.toArray⟩ cap) e fz)) (hc : lb.length ≤ cap) (hm : cap ≤ 9223372036854775807) : RB w (some ⟨g, 0, none⟩) lb.length cap lb := by
  refine RB.row h (fun j u hu => ?_) rfl hc hm
  rw [BV_get] at hu
  unfold bytesRow
  have hj : j < lb.length := by
    rcases Nat.lt_or_ge j lb.length with h' | h'
    · exact h'
    · rw [List.getElem?_eq_none h'] at hu
      cases hu
  rw [Array.getElem?_append_left (by simpa using hj)]
  simpa using hu

end Go.Proofs.Ytdgjbaeflbggpaa
