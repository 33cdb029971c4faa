/- The key that a jar of the program derives.
  SEATS: cookie guard -/
import Derived.Test.YtdgjbaeflbggpaaCookie
namespace Go.Proofs.Ytdgjbaeflbggpaa
open Go.RowKit
set_option linter.unusedVariables false

theorem key_in (W : World) (u v : Value) : Blk (W.alloc (.cells #[u, v] 24)) W.heap.size 24 [u, v] := Blk.new W _ _
theorem key_one {w : World} {b : Nat} (h : Key0 w b) (u : Value) : (w.setCell ⟨b, 0, none⟩ u).cell? ⟨b, 0, none⟩ = some u := World.cell?_setCell_same (h := h.c0) ..
theorem key_two {w : World} {b : Nat} (h : Key0 w b) (u v : Value) : ((w.setCell ⟨b, 0, none⟩ u).setCell ⟨b, 1, none⟩ v).cell? ⟨b, 0, none⟩ = some u ∧ ((w.setCell ⟨b, 0, none⟩ u).setCell ⟨b, 1, none⟩ v).cell? ⟨b, 1, none⟩ = some v := by
  have e0 : (w.setCell ⟨b, 0, none⟩ u).cell? ⟨b, 0, none⟩ = some u := World.cell?_setCell_same (h := h.c0) ..
  have e1 : (w.setCell ⟨b, 0, none⟩ u).cell? ⟨b, 1, none⟩ = some (.int .u64 0) := (World.cell?_setCell_other _ _ _ _ (by simp)).trans h.c1
  exact ⟨(World.cell?_setCell_other _ _ _ _ (by simp)).trans e0, World.cell?_setCell_same (h := e1) ..⟩
theorem Key0.drew {w : World} {g : Nat} (h : Key0 w g) : Key0 w.drew g := ⟨h.c0, h.c1, h.f0, h.f1⟩

set_option maxHeartbeats 1000000 in
theorem derived_any (g : Nat) (s : Int) (gen keep G : Nat) (lb : List UInt8) (w : World) (h : JarAt w g s gen keep) (hG : G ≤ 2147483647) (hlb : lb.length ≤ 1000) :
    Calls Try.prog 26 #[.pointer (some ⟨g, 0, none⟩), .int .i64 (G : Nat), .string ⟨lb.toArray⟩] w fun e w' => e = .returned (.agg #[.int .u64 (dkey s G lb 1), .int .u64 (dkey s G lb 2)]) ∧ Below w.heap.size w w' := by
  have kb : ∀ (w : World), (Go.convert 9 30 (.string ⟨lb.toArray⟩)).run Try.prog w = .ok (.slice (some ⟨w.heap.size, 0, none⟩) lb.length (grownCap w lb.length 0 5)) (w.drew.alloc (.cells (bytesRow ⟨lb.toArray⟩ (grownCap w lb.length 0 5)) 5 ((bytesRow ⟨lb.toArray⟩ (grownCap w lb.length 0 5)).size, (bytesRow ⟨lb.toArray⟩ (grownCap w lb.length 0 5)).size + 1))) := fun w => run_bytes_of_string w 9 30 5 ⟨lb.toArray⟩ Try.underlying9 Try.underlying30 Try.underlying5
  have h1 := (h.alloc (.cells #[.int .u64 0, .int .u64 0] 24)).cell 0
  have hA1 := ((Below.refl w.heap.size w).alloc (Nat.le_refl _) (.cells #[.int .u64 0, .int .u64 0] 24))
  have hb1 := (Blk.new w 24 [.int .u64 0, .int .u64 0])
  have hglt := h.lt
  simp only [List.getElem?_cons_zero] at h1
  have g3 : IntKind.u64.wrap (2 * (G : Int)) = 2 * G := by rw [IntKind.wrap_u64]; omega
  have g4 : IntKind.u64.wrap (2 * (G : Int) + 1) = 2 * G + 1 := by rw [IntKind.wrap_u64]; omega
  have q1 : g ≠ w.heap.size + 1 := by omega
  have n0 : Key0 ((w.alloc (.cells #[.int .u64 0, .int .u64 0] 24)).alloc (.cells #[.int .u64 0, .int .u64 0] 24)).drew (w.heap.size + 1) := by
    have := Key0.new (w.alloc (.cells #[.int .u64 0, .int .u64 0] 24))
    have := this.keep ((Below.refl _ _).drew)
    simpa using this
  go_enter Try.func26, Try.ntmps26
  go_wp2
  go_region_held3 (fun w' => w'.cell? ⟨g, 0, none⟩ = some (.int .u64 s))
    (with_reducible first | exact cell_drew h1 | exact cell_set (cell_set j2 q0) q0 | exact j1 | exact j2 | exact cell_alloc j2 _ | exact cell_alloc j1 _ | exact cell_drew (cell_alloc h1 _))
    (first
      | (go_at_call 34; refine (mix_any _ _ _).mono ?_; rintro e w2 ⟨rfl, hB2⟩; have j1 := cell_keep hB2 (cell_drew h1))
      | (go_at_call 34; refine (mix_any _ _ _).mono ?_; rintro e w2 ⟨rfl, hB2⟩; have j1 := cell_keep hB2 (cell_drew (cell_alloc h1 _)); have n1 := n0.keep hB2; have q0 := q1)
      | (go_at_call 34; refine (mix_any _ _ w2).mono ?_; rintro e w3 ⟨rfl, hB3⟩; have j2 := cell_keep hB3 j1; have n2 := n1.keep hB3; have m0 := n2.c0; have m1 := n2.c1; have m2 := n2.f0; have m3 := n2.f1)
      | (go_at_call 34; refine (mix_any _ _ w2).mono ?_; rintro e w3 ⟨rfl, hB3⟩; have j2 := cell_keep hB3 j1)
      | (go_at_call 34; refine (mix_any _ _ (w2.alloc (.cells #[.int .u64 0, .int .u64 0] 24))).mono ?_; rintro e w3 ⟨rfl, hB3⟩; have j2 := cell_keep hB3 (cell_alloc j1 _); have n2 := (Key0.new w2).keep hB3; have q0 : g ≠ w2.heap.size := Nat.ne_of_lt (cell_lt j1); have m0 := n2.c0; have m1 := n2.c1; have m2 := n2.f0; have m3 := n2.f1))
  refine gen_world (KeyIn w w3.heap.size (.int .u64 (mix s (2 * (G : Int)))) (.int .u64 (mix s (2 * (G : Int) + 1)))) ?a1 ?b1
  rotate_left 2
  refine gen_world (KeyIn w w2.heap.size (.int .u64 (mix s (2 * (G : Int)))) (.int .u64 (mix s (2 * (G : Int) + 1)))) ?a2 ?b2
  rotate_left 2
  refine gen_world (KeyIn w (w.heap.size + 1) (.int .u64 (mix s (2 * (G : Int)))) (.int .u64 (mix s (2 * (G : Int) + 1)))) ?a3 ?b3
  case a1 =>
    have hb2 := below_step hA1.drew hB2 hA1.size
    have hb3 := below_step hb2 hB3 hb2.size
    have hr := ((Key0.new w).drew.keep hB2).keep hB3
    exact ⟨hb3.alloc hb3.size _, (key_in _ _ _).cell 0, (key_in _ _ _).cell 1, hr.keep ((Below.refl _ _).alloc (Nat.le_refl _) _)⟩
  case a2 =>
    have hb2 := below_step hA1.drew hB2 hA1.size
    have hb2' := hb2.alloc hb2.size (.cells #[.int .u64 0, .int .u64 0] 24)
    have hb3 := below_step hb2' hB3 hb2'.size
    have hr2 := ((Key0.new w).drew.keep hB2)
    have hr := (hr2.keep ((Below.refl _ _).alloc (Nat.le_refl _) (.cells #[.int .u64 0, .int .u64 0] 24))).keep hB3
    have hk := key_two n2 (.int .u64 (mix s (2 * (G : Int)))) (.int .u64 (mix s (2 * (G : Int) + 1)))
    exact ⟨(hb3.setCell hb2.size _).setCell hb2.size _, hk.1, hk.2, Key0.setTwo n2 hr (Nat.ne_of_lt (cell_lt hr2.c0))⟩
  case a3 =>
    have hA2 := hA1.alloc hA1.size (.cells #[.int .u64 0, .int .u64 0] 24)
    have hb2 := below_step hA2.drew hB2 hA2.size
    have hb3 := below_step hb2 hB3 hb2.size
    have hr := (((Key0.new w).keep ((Below.refl _ _).alloc (Nat.le_refl _) (.cells #[.int .u64 0, .int .u64 0] 24))).drew.keep hB2).keep hB3
    have hk := key_two n2 (.int .u64 (mix s (2 * (G : Int)))) (.int .u64 (mix s (2 * (G : Int) + 1)))
    exact ⟨(hb3.setCell (by simp) _).setCell (by simp) _, hk.1, hk.2, Key0.setTwo n2 hr (by omega)⟩
  all_goals
    rintro W ⟨hW, m0, m1, hr⟩
    clear h hB2 hB3 j1 j2 hA1 n0
    go_wp2_with fail
    refine (derive_any _ _ _ _ _ lb _ ((bytesRow_rb (heap_alloc_new W _) (grownCap_ge W _ 0 _) (grownCap_le_maxLen W _ 0 _ (by simp [maxLen]; omega))).below (Below.refl _ _).drew)).mono ?_
    rintro e w4 ⟨rfl, hB4⟩
    have hW4 := below_step (hW.drew.alloc hW.size _) hB4 (by have := hW.size; simp; omega)
    have hr4 := (hr.keep ((Below.refl _ _).drew.alloc (Nat.le_refl _) _)).keep hB4
    have q0 := hr4.c0
    have q1 := hr4.c1
    have q2 := hr4.f0
    have q3 := hr4.f1
    have hk := key_two hr4 (.int .u64 (mix (mac (mix s (2 * (G : Int))) (mix s (2 * (G : Int) + 1)) lb) 1)) (.int .u64 (mix (mac (mix s (2 * (G : Int))) (mix s (2 * (G : Int) + 1)) lb) 2))
    have k0 := key_one hr4 (.int .u64 (mix (mac (mix s (2 * (G : Int))) (mix s (2 * (G : Int) + 1)) lb) 1))
    have k1 := hk.2
    clear hB4
    go_wp2
    refine bodyPost_ret (v := .agg #[.int .u64 (mix (mac (mix s (2 * (G : Int))) (mix s (2 * (G : Int) + 1)) lb) 1), .int .u64 (mix (mac (mix s (2 * (G : Int))) (mix s (2 * (G : Int) + 1)) lb) 2)]) (by simp [results, Try.results26, go_sem, k0, k1]) rfl ⟨rfl, ?_⟩
    exact (hW4.setCell (Nat.le_refl _) _).setCell (Nat.le_refl _) _
end Go.Proofs.Ytdgjbaeflbggpaa
