/- The cookie chapter's examples.
  SEATS: cookie -/
import Derived.Test.YtdgjbaeflbggpaaPlain44
import Derived.Test.YtdgjbaeflbggpaaJarR
import Derived.Test.YtdgjbaeflbggpaaBytes
namespace Go.Proofs.Ytdgjbaeflbggpaa
open Go.RowKit
set_option linter.unusedVariables false

theorem RB.turned {w w' : World} {g : Nat} {s : Int} {gen keep : Nat} {A : Option Addr} {n c : Nat} {bs : List UInt8} (h : RB w A n c bs) (hJ : JarAt w g s gen keep) (hG : w.grownBy w' (some g)) : RB w' A n c bs :=
  ⟨h.len, h.cap, h.max, fun hn => by
    obtain ⟨b, o, hA, hlt, hc⟩ := h.cells hn
    have hne : b ≠ g := by
      rintro rfl
      obtain ⟨b', o', hA', h0⟩ := h.at_ 0 (by have := h.len; omega)
      rw [hA] at hA'
      injection hA' with hA'
      injection hA' with e1 e2 e3
      subst e1 e2
      rw [Blk.cell hJ] at h0
      match o with
      | 0 => simp at h0
      | 1 => simp at h0
      | 2 => simp at h0
      | _ + 3 => simp at h0
    have hk := hG.block b hlt (by simpa using hne)
    exact ⟨b, o, hA, Nat.lt_of_lt_of_le hlt hG.size, fun j u' hu => (World.cell?_of_block (w := w) (a := ⟨b, o + j, none⟩) hk).trans (hc j u' hu)⟩⟩

theorem awake_head : ((cookieOf 5 1 258 (four 1 2 3 4)).take 12 == [0, 0, 0, 1, 0, 0, 0, 0, 0, 0, 1, 2]) = true := by
  have h : (cookieOf 5 1 258 (four 1 2 3 4)).take 12 = be 1 4 ++ be 258 8 := by
    have : cookieOf 5 1 258 (four 1 2 3 4) = (be 1 4 ++ be (Int.toNat 258) 8) ++ (((List.range 4).flatMap fun j => be (hid (four 1 2 3 4) 5 1 258 j).toNat 8) ++ be (mac (dkey 5 1 tagLb 1) (dkey 5 1 tagLb 2) (cookieAt 5 1 258 (four 1 2 3 4) 4)).toNat 8) := by
      rw [cookieOf, cookieAt, List.append_assoc]
    rw [this, List.take_left' (by simp [be_length])]
    rfl
  rw [h]
  rfl

theorem zeros_stale : openRes 5 1 1 (List.replicate 52 0) = .tuple #[zero2, zero2, .int .i64 17] := if_pos (.inl (by decide))

theorem zeros_rb {w : World} {g : Nat} (n : Nat) (h : Blk w g 5 (List.replicate n (.int .u8 0))) (hn : n ≤ 9223372036854775807) : RB w (some ⟨g, 0, none⟩) n n (List.replicate n 0) := by
  have e : List.replicate n (Value.int .u8 0) = BV (List.replicate n 0) := by simp [BV]
  rw [e] at h
  exact h.rb (List.length_replicate ..) (Nat.le_refl _) hn

theorem size_two (W : World) (o o' : Obj) : ((W.alloc o).alloc o').heap.size = W.heap.size + 1 + 1 := by simp

/-- What the examples keep while they go on. -/
structure Aw (w : World) (b x : Nat) (A : Option Addr) (c : Nat) (W : World) : Prop where
  jar : JarAt W w.heap.size 5 1 1
  rb : RB W A 52 c (cookieOf 5 1 258 (four 1 2 3 4))
  ka : Blk W b 24 [.int .u64 1, .int .u64 2]
  kb : Blk W (b + 1) 24 [.int .u64 3, .int .u64 4]
  kx : Blk W x 24 [.int .u64 1, .int .u64 2]
  ky : Blk W (x + 1) 24 [.int .u64 3, .int .u64 4]
  below : Below w.heap.size w W

theorem Aw.keep {w W W' : World} {b x c : Nat} {A : Option Addr} (h : Aw w b x A c W) (hB : Below W.heap.size W W') : Aw w b x A c W' :=
  ⟨Blk.below' h.jar hB, h.rb.below hB, h.ka.below' hB, h.kb.below' hB, h.kx.below' hB, h.ky.below' hB, below_step h.below hB h.below.size⟩

theorem two_keys (W : World) (u v u' v' : Value) : Blk ((W.alloc (.cells #[u, v] 24)).alloc (.cells #[u', v'] 24)) W.heap.size 24 [u, v] ∧ Blk ((W.alloc (.cells #[u, v] 24)).alloc (.cells #[u', v'] 24)) (W.heap.size + 1) 24 [u', v'] ∧ Below W.heap.size W ((W.alloc (.cells #[u, v] 24)).alloc (.cells #[u', v'] 24)) := by
  refine ⟨(Blk.new W 24 [u, v]).alloc _, ?_, ((Below.refl _ _).alloc (Nat.le_refl _) _).alloc (by simp) _⟩
  have := Blk.new (W.alloc (.cells #[u, v] 24)) 24 [u', v']
  simpa using this

set_option maxHeartbeats 4000000 in
theorem awake44 (w : World) : Calls Try.prog 15 #[] w fun e w' => e = .returned (.bool true) ∧ Below w.heap.size w w' := by
  have z0 : ∀ w, (Go.binOp .neq 24 (.agg #[.int .u64 1, .int .u64 2]) (.agg #[.int .u64 1, .int .u64 2])).run Try.prog w = .ok (.bool false) w := fun _ => by kernel_rfl
  have z1 : ∀ w, (Go.binOp .neq 24 (.agg #[.int .u64 3, .int .u64 4]) (.agg #[.int .u64 3, .int .u64 4])).run Try.prog w = .ok (.bool false) w := fun _ => by kernel_rfl
  go_enter Try.func15, Try.ntmps15
  go_wp2_with fail
  refine (new_ok 5 1 w (by omega) (by omega)).mono ?_
  rintro e w1 ⟨rfl, hJ1, hB1, hz1⟩
  rw [show Int.toNat 1 = 1 from rfl] at hJ1
  go_wp2_with fail
  have hT := two_keys w1 (.int .u64 1) (.int .u64 2) (.int .u64 3) (.int .u64 4)
  refine (seal_any w.heap.size 5 1 1 1 2 3 4 258 _ (Blk.below' hJ1 hT.2.2) (by omega) (by omega)).mono ?_
  rintro e w2 ⟨A, n, c, rfl, hr2, hB2⟩
  obtain rfl : n = 52 := by rw [← hr2.len, cookie_len]
  have ka2 := hT.1.below' hB2
  have kb2 := hT.2.1.below' hB2
  have hJ2 : JarAt w2 w.heap.size 5 1 1 := Blk.below' (Blk.below' hJ1 hT.2.2) hB2
  have hW1 := below_step hB1 hT.2.2 hB1.size
  have hW2 := below_step hW1 hB2 hW1.size
  clear hT hB2 hW1 hJ1
  go_wp2_with fail
  refine (open_52 w.heap.size 5 1 1 A c _ w2 hJ2 hr2 (by omega) (by omega)).mono ?_
  rintro e w3 ⟨rfl, hB3⟩
  rw [open_sealed 5 1 258 1 2 3 4 1 1 (by omega) (by omega) (by omega) (by omega) (by omega) (by omega) (by omega)]
  have hT := two_keys w3 (.int .u64 1) (.int .u64 2) (.int .u64 3) (.int .u64 4)
  have H3 : Aw w w1.heap.size w3.heap.size A c _ := ⟨Blk.below' (Blk.below' hJ2 hB3) hT.2.2, (hr2.below hB3).below hT.2.2, (ka2.below' hB3).below' hT.2.2, (kb2.below' hB3).below' hT.2.2, hT.1, hT.2.1, below_step (below_step hW2 hB3 hW2.size) hT.2.2 (by have := hW2.size; have := hB3.size; omega)⟩
  clear hT hB3 hW2 ka2 kb2 hJ2 hr2
  rw [hz1] at H3
  go_wp2_with (refine make_bytes rfl (.const (.int .i64 51)) rfl 51 _ rfl rfl (by omega) _ _ (Below.refl _ _) (Nat.le_refl _) ?_; intro w4 hb4 hB4 _ hz4)
  rw [size_two] at hb4
  have H4 := H3.keep hB4
  clear H3
  refine (open_short w.heap.size 5 1 1 _ 51 51 (List.replicate 51 0) w4 H4.jar (zeros_rb 51 hb4 (by omega)) (by omega)).mono ?_
  rintro e w5 ⟨rfl, hB5⟩
  unfold zero2
  have H5 := (H4.keep hB5).keep (two_keys w5 (.int .u64 0) (.int .u64 0) (.int .u64 0) (.int .u64 0)).2.2
  clear H4 hB5 hb4 hB4 hz4
  go_wp2_with (refine make_bytes rfl (.const (.int .i64 53)) rfl 53 _ rfl rfl (by omega) _ _ (Below.refl _ _) (Nat.le_refl _) ?_; intro w6 hb6 hB6 _ hz6)
  rw [size_two] at hb6
  have H6 := H5.keep hB6
  clear H5
  refine (open_long w.heap.size 5 1 1 _ 53 53 (List.replicate 53 0) w6 H6.jar (zeros_rb 53 hb6 (by omega)) (by omega)).mono ?_
  rintro e w7 ⟨rfl, hB7⟩
  unfold zero2
  have H7 := (H6.keep hB7).keep (two_keys w7 (.int .u64 0) (.int .u64 0) (.int .u64 0) (.int .u64 0)).2.2
  clear H6 hB7 hb6 hB6 hz6
  go_wp2_with (refine make_bytes rfl (.const (.int .i64 52)) rfl 52 _ rfl rfl (by omega) _ _ (Below.refl _ _) (Nat.le_refl _) ?_; intro w8 hb8 hB8 _ hz8)
  rw [size_two] at hb8
  have H8 := H7.keep hB8
  clear H7
  refine (open_52 w.heap.size 5 1 1 _ 52 (List.replicate 52 0) w8 H8.jar (zeros_rb 52 hb8 (by omega)) (by omega) (by omega)).mono ?_
  rintro e w9 ⟨rfl, hB9⟩
  rw [zeros_stale]
  unfold zero2
  have H9 := (H8.keep hB9).keep (two_keys w9 (.int .u64 0) (.int .u64 0) (.int .u64 0) (.int .u64 0)).2.2
  clear H8 hB9 hb8 hB8 hz8
  have hc := H9.rb.cap
  have hcI : (12 : Int) ≤ (c : Int) := by omega
  have H10 := H9.keep ((Below.refl _ _).alloc (Nat.le_refl _) (.cells (BV [0, 0, 0, 1, 0, 0, 0, 0, 0, 0, 1, 2]).toArray 5))
  have hL := Blk.new ((w9.alloc (.cells #[.int .u64 0, .int .u64 0] 24)).alloc (.cells #[.int .u64 0, .int .u64 0] 24)) 5 (BV [0, 0, 0, 1, 0, 0, 0, 0, 0, 0, 1, 2])
  rw [size_two] at hL
  have hLr := hL.rb (n := 12) (c := 12) rfl (Nat.le_refl _) (by omega)
  have k0 := H10.ka.cell 0
  have k1 := H10.ka.cell 1
  have k2 := H10.kb.cell 0
  have k3 := H10.kb.cell 1
  have k4 := H10.kx.cell 0
  have k5 := H10.kx.cell 1
  have k6 := H10.ky.cell 0
  have k7 := H10.ky.cell 1
  simp only [List.getElem?_cons_zero, List.getElem?_cons_succ] at k0 k1 k2 k3 k4 k5 k6 k7
  clear H9 hL
  go_wp2_with fail
  refine (equal_any A 12 c _ _ 12 12 _ _ (H10.rb.pre 12 (by omega)) hLr).mono ?_
  rintro e w10 ⟨rfl, rfl⟩
  rw [awake_head]
  go_wp2_with fail
  refine (rotate_ok w.heap.size 5 1 1 _ H10.jar (by omega)).mono ?_
  rintro e w11 ⟨rfl, hJ11, hG11⟩
  have hr11 := H10.rb.turned H10.jar hG11
  have hW11 := H10.below.grown hG11 H10.below.size (by rintro k ⟨rfl⟩; exact Nat.le_refl _)
  clear H10 hG11 k0 k1 k2 k3 k4 k5 k6 k7 hLr
  go_wp2_with fail
  refine (open_52 w.heap.size 5 2 1 A c _ w11 hJ11 hr11 (by omega) (by omega)).mono ?_
  rintro e w12 ⟨rfl, hB12⟩
  rw [open_stale 5 1 258 1 2 3 4 2 1 (by omega) (by omega)]
  unfold zero2
  have hJ12 : JarAt w12 w.heap.size 5 2 1 := Blk.below' hJ11 hB12
  have hW12 := below_step hW11 hB12 hW11.size
  have hT := (two_keys w12 (.int .u64 0) (.int .u64 0) (.int .u64 0) (.int .u64 0)).2.2
  have hJ13 := Blk.below' hJ12 hT
  have hW13 := below_step hW12 hT hW12.size
  clear hB12 hT hJ11 hW11 hJ12 hW12
  go_wp2_with (go_at_call 13; refine (gen_any w.heap.size 5 2 1 _ hJ13).mono ?_; rintro e w14 ⟨rfl, rfl⟩)
  go_ret
  exact ⟨rfl, hW13⟩
end Go.Proofs.Ytdgjbaeflbggpaa
