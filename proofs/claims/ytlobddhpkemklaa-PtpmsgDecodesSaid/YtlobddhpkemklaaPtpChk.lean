/- Check.
  SEATS: ptp -/
import Derived.Test.YtlobddhpkemklaaPtpK
import Derived.Deep.MidRow
namespace Go.Proofs.Ytlobddhpkemklaa
open Go.RowKit
set_option linter.unusedVariables false

theorem blk21 {w : World} {b t : Nat} {x0 x1 x2 x3 x4 x5 x6 x7 x8 x9 x10 x11 x12 x13 x14 x15 x16 x17 x18 x19 x20 : Value} (h : Blk w b t [x0, x1, x2, x3, x4, x5, x6, x7, x8, x9, x10, x11, x12, x13, x14, x15, x16, x17, x18, x19, x20]) : w.cell? ⟨b, 0, none⟩ = some x0 ∧ w.cell? ⟨b, 1, none⟩ = some x1 ∧ w.cell? ⟨b, 2, none⟩ = some x2 ∧ w.cell? ⟨b, 3, none⟩ = some x3 ∧ w.cell? ⟨b, 4, none⟩ = some x4 ∧ w.cell? ⟨b, 5, none⟩ = some x5 ∧ w.cell? ⟨b, 6, none⟩ = some x6 ∧ w.cell? ⟨b, 7, none⟩ = some x7 ∧ w.cell? ⟨b, 8, none⟩ = some x8 ∧ w.cell? ⟨b, 9, none⟩ = some x9 ∧ w.cell? ⟨b, 10, none⟩ = some x10 ∧ w.cell? ⟨b, 11, none⟩ = some x11 ∧ w.cell? ⟨b, 12, none⟩ = some x12 ∧ w.cell? ⟨b, 13, none⟩ = some x13 ∧ w.cell? ⟨b, 14, none⟩ = some x14 ∧ w.cell? ⟨b, 15, none⟩ = some x15 ∧ w.cell? ⟨b, 16, none⟩ = some x16 ∧ w.cell? ⟨b, 17, none⟩ = some x17 ∧ w.cell? ⟨b, 18, none⟩ = some x18 ∧ w.cell? ⟨b, 19, none⟩ = some x19 ∧ w.cell? ⟨b, 20, none⟩ = some x20 :=
  ⟨(h.cell 0).trans rfl, (h.cell 1).trans rfl, (h.cell 2).trans rfl, (h.cell 3).trans rfl, (h.cell 4).trans rfl, (h.cell 5).trans rfl, (h.cell 6).trans rfl, (h.cell 7).trans rfl, (h.cell 8).trans rfl, (h.cell 9).trans rfl, (h.cell 10).trans rfl, (h.cell 11).trans rfl, (h.cell 12).trans rfl, (h.cell 13).trans rfl, (h.cell 14).trans rfl, (h.cell 15).trans rfl, (h.cell 16).trans rfl, (h.cell 17).trans rfl, (h.cell 18).trans rfl, (h.cell 19).trans rfl, (h.cell 20).trans rfl⟩
theorem range21 {w : World} {g : Nat} {t : TypeId} {cs : List Value} (h : Blk w g t cs) : w.rangeAt g 0 cs := fun j v hv => by rw [Nat.zero_add, h.cell]; exact hv
theorem info21 : (Try.prog.info? 28).map (·.size) = some 21 := by kernel_rfl
theorem load21 {w : World} {g : Nat} {cs : List Value} (h : Blk w g 28 cs) (hl : cs.length = 21) : (Instr.loadAt 28 (.pointer (some ⟨g, 0, none⟩))).run Try.prog w = .ok (.agg cs.toArray) w :=
  run_loadAt_mid w g 0 28 cs _ (fun j v hv => by rw [Nat.zero_add, h.cell]; exact hv) Try.underlying28 rfl (by rw [hl]; kernel_rfl)
theorem blk21f {w : World} {b t : Nat} {cs : List Value} (h : Blk w b t cs) : w.frozen? ⟨b, 0, none⟩ = false ∧ w.frozen? ⟨b, 1, none⟩ = false ∧ w.frozen? ⟨b, 2, none⟩ = false ∧ w.frozen? ⟨b, 3, none⟩ = false ∧ w.frozen? ⟨b, 4, none⟩ = false ∧ w.frozen? ⟨b, 5, none⟩ = false ∧ w.frozen? ⟨b, 6, none⟩ = false ∧ w.frozen? ⟨b, 7, none⟩ = false ∧ w.frozen? ⟨b, 8, none⟩ = false ∧ w.frozen? ⟨b, 9, none⟩ = false ∧ w.frozen? ⟨b, 10, none⟩ = false ∧ w.frozen? ⟨b, 11, none⟩ = false ∧ w.frozen? ⟨b, 12, none⟩ = false ∧ w.frozen? ⟨b, 13, none⟩ = false ∧ w.frozen? ⟨b, 14, none⟩ = false ∧ w.frozen? ⟨b, 15, none⟩ = false ∧ w.frozen? ⟨b, 16, none⟩ = false ∧ w.frozen? ⟨b, 17, none⟩ = false ∧ w.frozen? ⟨b, 18, none⟩ = false ∧ w.frozen? ⟨b, 19, none⟩ = false ∧ w.frozen? ⟨b, 20, none⟩ = false :=
  ⟨h.frozen 0, h.frozen 1, h.frozen 2, h.frozen 3, h.frozen 4, h.frozen 5, h.frozen 6, h.frozen 7, h.frozen 8, h.frozen 9, h.frozen 10, h.frozen 11, h.frozen 12, h.frozen 13, h.frozen 14, h.frozen 15, h.frozen 16, h.frozen 17, h.frozen 18, h.frozen 19, h.frozen 20⟩

set_option maxHeartbeats 1000000 in
theorem chk0 (a0 a1 a2 a3 a4 a5 a6 a7 a8 a9 a10 a11 a12 a13 a14 a15 a16 a17 a18 a19 a20 sz : Int) (rq : Bool) (w : World) (hk : -9223372036854775808 ≤ a0 ∧ (a0 : Int) ≤ 9223372036854775807) (hsz : sizeOfKind a0 = sz) (hrq : isReq a0 = rq) (h0 : sz = 0) :
    Calls Try.prog 9 #[.agg #[.int .i64 a0, .int .i64 a1, .int .i64 a2, .int .i64 a3, .int .u64 a4, .int .i64 a5, .int .i64 a6, .int .i64 a7, .int .i64 a8, .int .i64 a9, .int .u64 a10, .int .i64 a11, .int .i64 a12, .int .i64 a13, .int .i64 a14, .int .i64 a15, .int .i64 a16, .int .i64 a17, .int .u64 a18, .int .i64 a19, .int .i64 a20]] w fun e w' => e = .returned (.int .i64 8) ∧ Below w.heap.size w w' := by
  subst h0
  have HS := hide (fun w => size_any a0 w hk)
  rw [hsz] at HS
  have Hq := hide hrq
  clear hsz hrq
  have HB := hide ((Below.refl w.heap.size w).alloc (Nat.le_refl _) (.cells #[.int .i64 a0, .int .i64 a1, .int .i64 a2, .int .i64 a3, .int .u64 a4, .int .i64 a5, .int .i64 a6, .int .i64 a7, .int .i64 a8, .int .i64 a9, .int .u64 a10, .int .i64 a11, .int .i64 a12, .int .i64 a13, .int .i64 a14, .int .i64 a15, .int .i64 a16, .int .i64 a17, .int .u64 a18, .int .i64 a19, .int .i64 a20] 28))
  have H0 := hide (Blk.new w 28 [.int .i64 a0, .int .i64 a1, .int .i64 a2, .int .i64 a3, .int .u64 a4, .int .i64 a5, .int .i64 a6, .int .i64 a7, .int .i64 a8, .int .i64 a9, .int .u64 a10, .int .i64 a11, .int .i64 a12, .int .i64 a13, .int .i64 a14, .int .i64 a15, .int .i64 a16, .int .i64 a17, .int .u64 a18, .int .i64 a19, .int .i64 a20])
  have k0 := Blk.cell H0.out 0
  simp only [List.getElem?_cons_zero] at k0
  go_enter Try.func9, Try.ntmps9
  go_wp2_with fail
  refine (HS.out _).mono ?_
  rintro e w1 ⟨rfl, hB1⟩
  have Hb1 := hide (Blk.below' H0.out hB1)
  have hW1 := below_step HB.out hB1 HB.out.size
  clear k0 hB1
  go_wp2
  go_ret
  exact ⟨rfl, hW1⟩

set_option maxHeartbeats 1000000 in
theorem chk1 (a0 a1 a2 a3 a4 a5 a6 a7 a8 a9 a10 a11 a12 a13 a14 a15 a16 a17 a18 a19 a20 sz : Int) (rq : Bool) (w : World) (hk : -9223372036854775808 ≤ a0 ∧ (a0 : Int) ≤ 9223372036854775807) (hsz : sizeOfKind a0 = sz) (hrq : isReq a0 = rq) (h0 : (sz == 0) = false) (hr : inRangeB (⟨a0, a1, a2, a3, a4, a5, a6, a7, a8, a9, a10, a11, a12, a13, a14, a15, a16, a17, a18, a19, a20⟩ : Ptp) = false) :
    Calls Try.prog 9 #[.agg #[.int .i64 a0, .int .i64 a1, .int .i64 a2, .int .i64 a3, .int .u64 a4, .int .i64 a5, .int .i64 a6, .int .i64 a7, .int .i64 a8, .int .i64 a9, .int .u64 a10, .int .i64 a11, .int .i64 a12, .int .i64 a13, .int .i64 a14, .int .i64 a15, .int .i64 a16, .int .i64 a17, .int .u64 a18, .int .i64 a19, .int .i64 a20]] w fun e w' => e = .returned (.int .i64 3) ∧ Below w.heap.size w w' := by
  have HS := hide (fun w => size_any a0 w hk)
  rw [hsz] at HS
  have Hq := hide hrq
  clear hsz hrq
  have HR := hide (fun w => inRange_any (⟨a0, a1, a2, a3, a4, a5, a6, a7, a8, a9, a10, a11, a12, a13, a14, a15, a16, a17, a18, a19, a20⟩ : Ptp) w)
  rw [hr] at HR
  unfold Ptp.val Ptp.cells at HR
  dsimp only at HR
  clear hr
  have HB := hide ((Below.refl w.heap.size w).alloc (Nat.le_refl _) (.cells #[.int .i64 a0, .int .i64 a1, .int .i64 a2, .int .i64 a3, .int .u64 a4, .int .i64 a5, .int .i64 a6, .int .i64 a7, .int .i64 a8, .int .i64 a9, .int .u64 a10, .int .i64 a11, .int .i64 a12, .int .i64 a13, .int .i64 a14, .int .i64 a15, .int .i64 a16, .int .i64 a17, .int .u64 a18, .int .i64 a19, .int .i64 a20] 28))
  have H0 := hide (Blk.new w 28 [.int .i64 a0, .int .i64 a1, .int .i64 a2, .int .i64 a3, .int .u64 a4, .int .i64 a5, .int .i64 a6, .int .i64 a7, .int .i64 a8, .int .i64 a9, .int .u64 a10, .int .i64 a11, .int .i64 a12, .int .i64 a13, .int .i64 a14, .int .i64 a15, .int .i64 a16, .int .i64 a17, .int .u64 a18, .int .i64 a19, .int .i64 a20])
  have k0 := Blk.cell H0.out 0
  simp only [List.getElem?_cons_zero] at k0
  go_enter Try.func9, Try.ntmps9
  go_wp2_with fail
  refine (HS.out _).mono ?_
  rintro e w1 ⟨rfl, hB1⟩
  have Hb1 := hide (Blk.below' H0.out hB1)
  have hW1 := below_step HB.out hB1 HB.out.size
  clear k0 hB1
  have hld := Hb1.out
  go_wp2_with (refine wpList_load_mid rfl 28 _ rfl _ 0 rfl _ _ (range21 hld) Try.underlying28 rfl info21 ?_)
  refine (HR.out _).mono ?_
  rintro e w2 ⟨rfl, hB2⟩
  have Hb2 := hide (Blk.below' Hb1.out hB2)
  have hW2 := below_step hW1 hB2 hW1.size
  clear hB2 hld
  go_wp2
  go_ret
  exact ⟨rfl, hW2⟩

set_option maxHeartbeats 1000000 in
theorem chk2 (a0 a1 a2 a3 a4 a5 a6 a7 a8 a9 a10 a11 a12 a13 a14 a15 a16 a17 a18 a19 a20 sz : Int) (rq : Bool) (w : World) (hk : -9223372036854775808 ≤ a0 ∧ (a0 : Int) ≤ 9223372036854775807) (hsz : sizeOfKind a0 = sz) (hrq : isReq a0 = rq) (h0 : (sz == 0) = false) (hr : inRangeB (⟨a0, a1, a2, a3, a4, a5, a6, a7, a8, a9, a10, a11, a12, a13, a14, a15, a16, a17, a18, a19, a20⟩ : Ptp) = true) (h2 : rq = false) (h3 : (a10 != 0) = true) :
    Calls Try.prog 9 #[.agg #[.int .i64 a0, .int .i64 a1, .int .i64 a2, .int .i64 a3, .int .u64 a4, .int .i64 a5, .int .i64 a6, .int .i64 a7, .int .i64 a8, .int .i64 a9, .int .u64 a10, .int .i64 a11, .int .i64 a12, .int .i64 a13, .int .i64 a14, .int .i64 a15, .int .i64 a16, .int .i64 a17, .int .u64 a18, .int .i64 a19, .int .i64 a20]] w fun e w' => e = .returned (.int .i64 7) ∧ Below w.heap.size w w' := by
  subst h2
  have HS := hide (fun w => size_any a0 w hk)
  rw [hsz] at HS
  have Hq := hide hrq
  clear hsz hrq
  have HR := hide (fun w => inRange_any (⟨a0, a1, a2, a3, a4, a5, a6, a7, a8, a9, a10, a11, a12, a13, a14, a15, a16, a17, a18, a19, a20⟩ : Ptp) w)
  rw [hr] at HR
  unfold Ptp.val Ptp.cells at HR
  dsimp only at HR
  clear hr
  have HB := hide ((Below.refl w.heap.size w).alloc (Nat.le_refl _) (.cells #[.int .i64 a0, .int .i64 a1, .int .i64 a2, .int .i64 a3, .int .u64 a4, .int .i64 a5, .int .i64 a6, .int .i64 a7, .int .i64 a8, .int .i64 a9, .int .u64 a10, .int .i64 a11, .int .i64 a12, .int .i64 a13, .int .i64 a14, .int .i64 a15, .int .i64 a16, .int .i64 a17, .int .u64 a18, .int .i64 a19, .int .i64 a20] 28))
  have H0 := hide (Blk.new w 28 [.int .i64 a0, .int .i64 a1, .int .i64 a2, .int .i64 a3, .int .u64 a4, .int .i64 a5, .int .i64 a6, .int .i64 a7, .int .i64 a8, .int .i64 a9, .int .u64 a10, .int .i64 a11, .int .i64 a12, .int .i64 a13, .int .i64 a14, .int .i64 a15, .int .i64 a16, .int .i64 a17, .int .u64 a18, .int .i64 a19, .int .i64 a20])
  have k0 := Blk.cell H0.out 0
  simp only [List.getElem?_cons_zero] at k0
  go_enter Try.func9, Try.ntmps9
  go_wp2_with fail
  refine (HS.out _).mono ?_
  rintro e w1 ⟨rfl, hB1⟩
  have Hb1 := hide (Blk.below' H0.out hB1)
  have hW1 := below_step HB.out hB1 HB.out.size
  clear k0 hB1
  have hld := Hb1.out
  go_wp2_with (refine wpList_load_mid rfl 28 _ rfl _ 0 rfl _ _ (range21 hld) Try.underlying28 rfl info21 ?_)
  refine (HR.out _).mono ?_
  rintro e w2 ⟨rfl, hB2⟩
  have Hb2 := hide (Blk.below' Hb1.out hB2)
  have hW2 := below_step hW1 hB2 hW1.size
  clear hB2 hld
  obtain ⟨l0, l1, l2, l3, l4, l5, l6, l7, l8, l9, l10, l11, l12, l13, l14, l15, l16, l17, l18, l19, l20⟩ := blk21 Hb2.out
  go_wp2_with (go_at_call 21; refine (requester_any _ _).mono ?_; rintro e w3 ⟨rfl, rfl⟩; rw [Hq.out])
  go_ret
  exact ⟨rfl, hW2⟩

set_option maxHeartbeats 1000000 in
theorem chk3 (a0 a1 a2 a3 a4 a5 a6 a7 a8 a9 a11 a12 a13 a14 a15 a16 a17 a18 a19 a20 sz : Int) (rq : Bool) (w : World) (hk : -9223372036854775808 ≤ a0 ∧ (a0 : Int) ≤ 9223372036854775807) (hsz : sizeOfKind a0 = sz) (hrq : isReq a0 = rq) (h0 : (sz == 0) = false) (hr : inRangeB (⟨a0, a1, a2, a3, a4, a5, a6, a7, a8, a9, 0, a11, a12, a13, a14, a15, a16, a17, a18, a19, a20⟩ : Ptp) = true) (h2 : rq = false) (h3 : (a11 != 0) = true) :
    Calls Try.prog 9 #[.agg #[.int .i64 a0, .int .i64 a1, .int .i64 a2, .int .i64 a3, .int .u64 a4, .int .i64 a5, .int .i64 a6, .int .i64 a7, .int .i64 a8, .int .i64 a9, .int .u64 0, .int .i64 a11, .int .i64 a12, .int .i64 a13, .int .i64 a14, .int .i64 a15, .int .i64 a16, .int .i64 a17, .int .u64 a18, .int .i64 a19, .int .i64 a20]] w fun e w' => e = .returned (.int .i64 7) ∧ Below w.heap.size w w' := by
  subst h2
  have HS := hide (fun w => size_any a0 w hk)
  rw [hsz] at HS
  have Hq := hide hrq
  clear hsz hrq
  have HR := hide (fun w => inRange_any (⟨a0, a1, a2, a3, a4, a5, a6, a7, a8, a9, 0, a11, a12, a13, a14, a15, a16, a17, a18, a19, a20⟩ : Ptp) w)
  rw [hr] at HR
  unfold Ptp.val Ptp.cells at HR
  dsimp only at HR
  clear hr
  have HB := hide ((Below.refl w.heap.size w).alloc (Nat.le_refl _) (.cells #[.int .i64 a0, .int .i64 a1, .int .i64 a2, .int .i64 a3, .int .u64 a4, .int .i64 a5, .int .i64 a6, .int .i64 a7, .int .i64 a8, .int .i64 a9, .int .u64 0, .int .i64 a11, .int .i64 a12, .int .i64 a13, .int .i64 a14, .int .i64 a15, .int .i64 a16, .int .i64 a17, .int .u64 a18, .int .i64 a19, .int .i64 a20] 28))
  have H0 := hide (Blk.new w 28 [.int .i64 a0, .int .i64 a1, .int .i64 a2, .int .i64 a3, .int .u64 a4, .int .i64 a5, .int .i64 a6, .int .i64 a7, .int .i64 a8, .int .i64 a9, .int .u64 0, .int .i64 a11, .int .i64 a12, .int .i64 a13, .int .i64 a14, .int .i64 a15, .int .i64 a16, .int .i64 a17, .int .u64 a18, .int .i64 a19, .int .i64 a20])
  have k0 := Blk.cell H0.out 0
  simp only [List.getElem?_cons_zero] at k0
  go_enter Try.func9, Try.ntmps9
  go_wp2_with fail
  refine (HS.out _).mono ?_
  rintro e w1 ⟨rfl, hB1⟩
  have Hb1 := hide (Blk.below' H0.out hB1)
  have hW1 := below_step HB.out hB1 HB.out.size
  clear k0 hB1
  have hld := Hb1.out
  go_wp2_with (refine wpList_load_mid rfl 28 _ rfl _ 0 rfl _ _ (range21 hld) Try.underlying28 rfl info21 ?_)
  refine (HR.out _).mono ?_
  rintro e w2 ⟨rfl, hB2⟩
  have Hb2 := hide (Blk.below' Hb1.out hB2)
  have hW2 := below_step hW1 hB2 hW1.size
  clear hB2 hld
  obtain ⟨l0, l1, l2, l3, l4, l5, l6, l7, l8, l9, l10, l11, l12, l13, l14, l15, l16, l17, l18, l19, l20⟩ := blk21 Hb2.out
  go_wp2_with (go_at_call 21; refine (requester_any _ _).mono ?_; rintro e w3 ⟨rfl, rfl⟩; rw [Hq.out])
  go_ret
  exact ⟨rfl, hW2⟩

set_option maxHeartbeats 1000000 in
theorem chk4 (a1 a2 a3 a4 a5 a6 a7 a8 a9 a12 a13 a14 a15 a16 a17 a18 a19 a20 sz : Int) (rq : Bool) (w : World) (hk : -9223372036854775808 ≤ 11 ∧ (11 : Int) ≤ 9223372036854775807) (hsz : sizeOfKind 11 = sz) (hrq : isReq 11 = rq) (h0 : (sz == 0) = false) (hr : inRangeB (⟨11, a1, a2, a3, a4, a5, a6, a7, a8, a9, 0, 0, a12, a13, a14, a15, a16, a17, a18, a19, a20⟩ : Ptp) = true) (h2 : rq = false) :
    Calls Try.prog 9 #[.agg #[.int .i64 11, .int .i64 a1, .int .i64 a2, .int .i64 a3, .int .u64 a4, .int .i64 a5, .int .i64 a6, .int .i64 a7, .int .i64 a8, .int .i64 a9, .int .u64 0, .int .i64 0, .int .i64 a12, .int .i64 a13, .int .i64 a14, .int .i64 a15, .int .i64 a16, .int .i64 a17, .int .u64 a18, .int .i64 a19, .int .i64 a20]] w fun e w' => e = .returned (.int .i64 0) ∧ Below w.heap.size w w' := by
  subst h2
  have HS := hide (fun w => size_any 11 w hk)
  rw [hsz] at HS
  have Hq := hide hrq
  clear hsz hrq
  have HR := hide (fun w => inRange_any (⟨11, a1, a2, a3, a4, a5, a6, a7, a8, a9, 0, 0, a12, a13, a14, a15, a16, a17, a18, a19, a20⟩ : Ptp) w)
  rw [hr] at HR
  unfold Ptp.val Ptp.cells at HR
  dsimp only at HR
  clear hr
  have HB := hide ((Below.refl w.heap.size w).alloc (Nat.le_refl _) (.cells #[.int .i64 11, .int .i64 a1, .int .i64 a2, .int .i64 a3, .int .u64 a4, .int .i64 a5, .int .i64 a6, .int .i64 a7, .int .i64 a8, .int .i64 a9, .int .u64 0, .int .i64 0, .int .i64 a12, .int .i64 a13, .int .i64 a14, .int .i64 a15, .int .i64 a16, .int .i64 a17, .int .u64 a18, .int .i64 a19, .int .i64 a20] 28))
  have H0 := hide (Blk.new w 28 [.int .i64 11, .int .i64 a1, .int .i64 a2, .int .i64 a3, .int .u64 a4, .int .i64 a5, .int .i64 a6, .int .i64 a7, .int .i64 a8, .int .i64 a9, .int .u64 0, .int .i64 0, .int .i64 a12, .int .i64 a13, .int .i64 a14, .int .i64 a15, .int .i64 a16, .int .i64 a17, .int .u64 a18, .int .i64 a19, .int .i64 a20])
  have k0 := Blk.cell H0.out 0
  simp only [List.getElem?_cons_zero] at k0
  go_enter Try.func9, Try.ntmps9
  go_wp2_with fail
  refine (HS.out _).mono ?_
  rintro e w1 ⟨rfl, hB1⟩
  have Hb1 := hide (Blk.below' H0.out hB1)
  have hW1 := below_step HB.out hB1 HB.out.size
  clear k0 hB1
  have hld := Hb1.out
  go_wp2_with (refine wpList_load_mid rfl 28 _ rfl _ 0 rfl _ _ (range21 hld) Try.underlying28 rfl info21 ?_)
  refine (HR.out _).mono ?_
  rintro e w2 ⟨rfl, hB2⟩
  have Hb2 := hide (Blk.below' Hb1.out hB2)
  have hW2 := below_step hW1 hB2 hW1.size
  clear hB2 hld
  obtain ⟨l0, l1, l2, l3, l4, l5, l6, l7, l8, l9, l10, l11, l12, l13, l14, l15, l16, l17, l18, l19, l20⟩ := blk21 Hb2.out
  go_wp2_with (go_at_call 21; refine (requester_any _ _).mono ?_; rintro e w3 ⟨rfl, rfl⟩; rw [Hq.out])
  go_ret
  exact ⟨rfl, hW2⟩

set_option maxHeartbeats 1000000 in
theorem chk5 (a0 a1 a2 a3 a4 a5 a6 a7 a8 a9 a12 a13 a14 a15 a16 a17 a18 a19 a20 sz : Int) (rq : Bool) (w : World) (hk : -9223372036854775808 ≤ a0 ∧ (a0 : Int) ≤ 9223372036854775807) (hsz : sizeOfKind a0 = sz) (hrq : isReq a0 = rq) (h0 : (sz == 0) = false) (hr : inRangeB (⟨a0, a1, a2, a3, a4, a5, a6, a7, a8, a9, 0, 0, a12, a13, a14, a15, a16, a17, a18, a19, a20⟩ : Ptp) = true) (h2 : rq = false) (h3 : (a0 != 11) = true) (hz : ((a12 == 0 && (a13 == 0 && (a14 == 0 && (a15 == 0 && (a16 == 0 && (a17 == 0 && (a18 == 0 && (a19 == 0 && a20 == 0))))))))) = false) :
    Calls Try.prog 9 #[.agg #[.int .i64 a0, .int .i64 a1, .int .i64 a2, .int .i64 a3, .int .u64 a4, .int .i64 a5, .int .i64 a6, .int .i64 a7, .int .i64 a8, .int .i64 a9, .int .u64 0, .int .i64 0, .int .i64 a12, .int .i64 a13, .int .i64 a14, .int .i64 a15, .int .i64 a16, .int .i64 a17, .int .u64 a18, .int .i64 a19, .int .i64 a20]] w fun e w' => e = .returned (.int .i64 7) ∧ Below w.heap.size w w' := by
  subst h2
  have HS := hide (fun w => size_any a0 w hk)
  rw [hsz] at HS
  have Hq := hide hrq
  clear hsz hrq
  have HR := hide (fun w => inRange_any (⟨a0, a1, a2, a3, a4, a5, a6, a7, a8, a9, 0, 0, a12, a13, a14, a15, a16, a17, a18, a19, a20⟩ : Ptp) w)
  rw [hr] at HR
  unfold Ptp.val Ptp.cells at HR
  dsimp only at HR
  clear hr
  have z := fun w => ann_neq0 a12 a13 a14 a15 a16 a17 a18 a19 a20 w
  rw [hz] at z
  have Hz := hide z
  clear hz z
  have HB := hide ((Below.refl w.heap.size w).alloc (Nat.le_refl _) (.cells #[.int .i64 a0, .int .i64 a1, .int .i64 a2, .int .i64 a3, .int .u64 a4, .int .i64 a5, .int .i64 a6, .int .i64 a7, .int .i64 a8, .int .i64 a9, .int .u64 0, .int .i64 0, .int .i64 a12, .int .i64 a13, .int .i64 a14, .int .i64 a15, .int .i64 a16, .int .i64 a17, .int .u64 a18, .int .i64 a19, .int .i64 a20] 28))
  have H0 := hide (Blk.new w 28 [.int .i64 a0, .int .i64 a1, .int .i64 a2, .int .i64 a3, .int .u64 a4, .int .i64 a5, .int .i64 a6, .int .i64 a7, .int .i64 a8, .int .i64 a9, .int .u64 0, .int .i64 0, .int .i64 a12, .int .i64 a13, .int .i64 a14, .int .i64 a15, .int .i64 a16, .int .i64 a17, .int .u64 a18, .int .i64 a19, .int .i64 a20])
  have k0 := Blk.cell H0.out 0
  simp only [List.getElem?_cons_zero] at k0
  go_enter Try.func9, Try.ntmps9
  go_wp2_with fail
  refine (HS.out _).mono ?_
  rintro e w1 ⟨rfl, hB1⟩
  have Hb1 := hide (Blk.below' H0.out hB1)
  have hW1 := below_step HB.out hB1 HB.out.size
  clear k0 hB1
  have hld := Hb1.out
  go_wp2_with (refine wpList_load_mid rfl 28 _ rfl _ 0 rfl _ _ (range21 hld) Try.underlying28 rfl info21 ?_)
  refine (HR.out _).mono ?_
  rintro e w2 ⟨rfl, hB2⟩
  have Hb2 := hide (Blk.below' Hb1.out hB2)
  have hW2 := below_step hW1 hB2 hW1.size
  clear hB2 hld
  obtain ⟨l0, l1, l2, l3, l4, l5, l6, l7, l8, l9, l10, l11, l12, l13, l14, l15, l16, l17, l18, l19, l20⟩ := blk21 Hb2.out
  have z := Hz.out
  go_wp2_with (go_at_call 21; refine (requester_any _ _).mono ?_; rintro e w3 ⟨rfl, rfl⟩; rw [Hq.out])
  go_ret
  exact ⟨rfl, hW2⟩

set_option maxHeartbeats 1000000 in
theorem chk6 (a0 a1 a2 a3 a4 a5 a6 a7 a8 a9 a12 a13 a14 a15 a16 a17 a18 a19 a20 sz : Int) (rq : Bool) (w : World) (hk : -9223372036854775808 ≤ a0 ∧ (a0 : Int) ≤ 9223372036854775807) (hsz : sizeOfKind a0 = sz) (hrq : isReq a0 = rq) (h0 : (sz == 0) = false) (hr : inRangeB (⟨a0, a1, a2, a3, a4, a5, a6, a7, a8, a9, 0, 0, a12, a13, a14, a15, a16, a17, a18, a19, a20⟩ : Ptp) = true) (h2 : rq = false) (h3 : (a0 != 11) = true) (hz : ((a12 == 0 && (a13 == 0 && (a14 == 0 && (a15 == 0 && (a16 == 0 && (a17 == 0 && (a18 == 0 && (a19 == 0 && a20 == 0))))))))) = true) :
    Calls Try.prog 9 #[.agg #[.int .i64 a0, .int .i64 a1, .int .i64 a2, .int .i64 a3, .int .u64 a4, .int .i64 a5, .int .i64 a6, .int .i64 a7, .int .i64 a8, .int .i64 a9, .int .u64 0, .int .i64 0, .int .i64 a12, .int .i64 a13, .int .i64 a14, .int .i64 a15, .int .i64 a16, .int .i64 a17, .int .u64 a18, .int .i64 a19, .int .i64 a20]] w fun e w' => e = .returned (.int .i64 0) ∧ Below w.heap.size w w' := by
  subst h2
  have HS := hide (fun w => size_any a0 w hk)
  rw [hsz] at HS
  have Hq := hide hrq
  clear hsz hrq
  have HR := hide (fun w => inRange_any (⟨a0, a1, a2, a3, a4, a5, a6, a7, a8, a9, 0, 0, a12, a13, a14, a15, a16, a17, a18, a19, a20⟩ : Ptp) w)
  rw [hr] at HR
  unfold Ptp.val Ptp.cells at HR
  dsimp only at HR
  clear hr
  have z := fun w => ann_neq0 a12 a13 a14 a15 a16 a17 a18 a19 a20 w
  rw [hz] at z
  have Hz := hide z
  clear hz z
  have HB := hide ((Below.refl w.heap.size w).alloc (Nat.le_refl _) (.cells #[.int .i64 a0, .int .i64 a1, .int .i64 a2, .int .i64 a3, .int .u64 a4, .int .i64 a5, .int .i64 a6, .int .i64 a7, .int .i64 a8, .int .i64 a9, .int .u64 0, .int .i64 0, .int .i64 a12, .int .i64 a13, .int .i64 a14, .int .i64 a15, .int .i64 a16, .int .i64 a17, .int .u64 a18, .int .i64 a19, .int .i64 a20] 28))
  have H0 := hide (Blk.new w 28 [.int .i64 a0, .int .i64 a1, .int .i64 a2, .int .i64 a3, .int .u64 a4, .int .i64 a5, .int .i64 a6, .int .i64 a7, .int .i64 a8, .int .i64 a9, .int .u64 0, .int .i64 0, .int .i64 a12, .int .i64 a13, .int .i64 a14, .int .i64 a15, .int .i64 a16, .int .i64 a17, .int .u64 a18, .int .i64 a19, .int .i64 a20])
  have k0 := Blk.cell H0.out 0
  simp only [List.getElem?_cons_zero] at k0
  go_enter Try.func9, Try.ntmps9
  go_wp2_with fail
  refine (HS.out _).mono ?_
  rintro e w1 ⟨rfl, hB1⟩
  have Hb1 := hide (Blk.below' H0.out hB1)
  have hW1 := below_step HB.out hB1 HB.out.size
  clear k0 hB1
  have hld := Hb1.out
  go_wp2_with (refine wpList_load_mid rfl 28 _ rfl _ 0 rfl _ _ (range21 hld) Try.underlying28 rfl info21 ?_)
  refine (HR.out _).mono ?_
  rintro e w2 ⟨rfl, hB2⟩
  have Hb2 := hide (Blk.below' Hb1.out hB2)
  have hW2 := below_step hW1 hB2 hW1.size
  clear hB2 hld
  obtain ⟨l0, l1, l2, l3, l4, l5, l6, l7, l8, l9, l10, l11, l12, l13, l14, l15, l16, l17, l18, l19, l20⟩ := blk21 Hb2.out
  have z := Hz.out
  go_wp2_with (go_at_call 21; refine (requester_any _ _).mono ?_; rintro e w3 ⟨rfl, rfl⟩; rw [Hq.out])
  go_ret
  exact ⟨rfl, hW2⟩

set_option maxHeartbeats 1000000 in
theorem chk7 (a0 a1 a2 a3 a4 a5 a6 a7 a8 a9 a10 a11 a12 a13 a14 a15 a16 a17 a18 a19 a20 sz : Int) (rq : Bool) (w : World) (hk : -9223372036854775808 ≤ a0 ∧ (a0 : Int) ≤ 9223372036854775807) (hsz : sizeOfKind a0 = sz) (hrq : isReq a0 = rq) (h0 : (sz == 0) = false) (hr : inRangeB (⟨a0, a1, a2, a3, a4, a5, a6, a7, a8, a9, a10, a11, a12, a13, a14, a15, a16, a17, a18, a19, a20⟩ : Ptp) = true) (h2 : rq = true) (h3 : (a0 != 11) = true) (hz : ((a12 == 0 && (a13 == 0 && (a14 == 0 && (a15 == 0 && (a16 == 0 && (a17 == 0 && (a18 == 0 && (a19 == 0 && a20 == 0))))))))) = false) :
    Calls Try.prog 9 #[.agg #[.int .i64 a0, .int .i64 a1, .int .i64 a2, .int .i64 a3, .int .u64 a4, .int .i64 a5, .int .i64 a6, .int .i64 a7, .int .i64 a8, .int .i64 a9, .int .u64 a10, .int .i64 a11, .int .i64 a12, .int .i64 a13, .int .i64 a14, .int .i64 a15, .int .i64 a16, .int .i64 a17, .int .u64 a18, .int .i64 a19, .int .i64 a20]] w fun e w' => e = .returned (.int .i64 7) ∧ Below w.heap.size w w' := by
  subst h2
  have HS := hide (fun w => size_any a0 w hk)
  rw [hsz] at HS
  have Hq := hide hrq
  clear hsz hrq
  have HR := hide (fun w => inRange_any (⟨a0, a1, a2, a3, a4, a5, a6, a7, a8, a9, a10, a11, a12, a13, a14, a15, a16, a17, a18, a19, a20⟩ : Ptp) w)
  rw [hr] at HR
  unfold Ptp.val Ptp.cells at HR
  dsimp only at HR
  clear hr
  have z := fun w => ann_neq0 a12 a13 a14 a15 a16 a17 a18 a19 a20 w
  rw [hz] at z
  have Hz := hide z
  clear hz z
  have HB := hide ((Below.refl w.heap.size w).alloc (Nat.le_refl _) (.cells #[.int .i64 a0, .int .i64 a1, .int .i64 a2, .int .i64 a3, .int .u64 a4, .int .i64 a5, .int .i64 a6, .int .i64 a7, .int .i64 a8, .int .i64 a9, .int .u64 a10, .int .i64 a11, .int .i64 a12, .int .i64 a13, .int .i64 a14, .int .i64 a15, .int .i64 a16, .int .i64 a17, .int .u64 a18, .int .i64 a19, .int .i64 a20] 28))
  have H0 := hide (Blk.new w 28 [.int .i64 a0, .int .i64 a1, .int .i64 a2, .int .i64 a3, .int .u64 a4, .int .i64 a5, .int .i64 a6, .int .i64 a7, .int .i64 a8, .int .i64 a9, .int .u64 a10, .int .i64 a11, .int .i64 a12, .int .i64 a13, .int .i64 a14, .int .i64 a15, .int .i64 a16, .int .i64 a17, .int .u64 a18, .int .i64 a19, .int .i64 a20])
  have k0 := Blk.cell H0.out 0
  simp only [List.getElem?_cons_zero] at k0
  go_enter Try.func9, Try.ntmps9
  go_wp2_with fail
  refine (HS.out _).mono ?_
  rintro e w1 ⟨rfl, hB1⟩
  have Hb1 := hide (Blk.below' H0.out hB1)
  have hW1 := below_step HB.out hB1 HB.out.size
  clear k0 hB1
  have hld := Hb1.out
  go_wp2_with (refine wpList_load_mid rfl 28 _ rfl _ 0 rfl _ _ (range21 hld) Try.underlying28 rfl info21 ?_)
  refine (HR.out _).mono ?_
  rintro e w2 ⟨rfl, hB2⟩
  have Hb2 := hide (Blk.below' Hb1.out hB2)
  have hW2 := below_step hW1 hB2 hW1.size
  clear hB2 hld
  obtain ⟨l0, l1, l2, l3, l4, l5, l6, l7, l8, l9, l10, l11, l12, l13, l14, l15, l16, l17, l18, l19, l20⟩ := blk21 Hb2.out
  have z := Hz.out
  go_wp2_with (go_at_call 21; refine (requester_any _ _).mono ?_; rintro e w3 ⟨rfl, rfl⟩; rw [Hq.out])
  go_ret
  exact ⟨rfl, hW2⟩

set_option maxHeartbeats 1000000 in
theorem chk8 (a0 a1 a2 a3 a4 a5 a6 a7 a8 a9 a10 a11 a12 a13 a14 a15 a16 a17 a18 a19 a20 sz : Int) (rq : Bool) (w : World) (hk : -9223372036854775808 ≤ a0 ∧ (a0 : Int) ≤ 9223372036854775807) (hsz : sizeOfKind a0 = sz) (hrq : isReq a0 = rq) (h0 : (sz == 0) = false) (hr : inRangeB (⟨a0, a1, a2, a3, a4, a5, a6, a7, a8, a9, a10, a11, a12, a13, a14, a15, a16, a17, a18, a19, a20⟩ : Ptp) = true) (h2 : rq = true) (h3 : (a0 != 11) = true) (hz : ((a12 == 0 && (a13 == 0 && (a14 == 0 && (a15 == 0 && (a16 == 0 && (a17 == 0 && (a18 == 0 && (a19 == 0 && a20 == 0))))))))) = true) :
    Calls Try.prog 9 #[.agg #[.int .i64 a0, .int .i64 a1, .int .i64 a2, .int .i64 a3, .int .u64 a4, .int .i64 a5, .int .i64 a6, .int .i64 a7, .int .i64 a8, .int .i64 a9, .int .u64 a10, .int .i64 a11, .int .i64 a12, .int .i64 a13, .int .i64 a14, .int .i64 a15, .int .i64 a16, .int .i64 a17, .int .u64 a18, .int .i64 a19, .int .i64 a20]] w fun e w' => e = .returned (.int .i64 0) ∧ Below w.heap.size w w' := by
  subst h2
  have HS := hide (fun w => size_any a0 w hk)
  rw [hsz] at HS
  have Hq := hide hrq
  clear hsz hrq
  have HR := hide (fun w => inRange_any (⟨a0, a1, a2, a3, a4, a5, a6, a7, a8, a9, a10, a11, a12, a13, a14, a15, a16, a17, a18, a19, a20⟩ : Ptp) w)
  rw [hr] at HR
  unfold Ptp.val Ptp.cells at HR
  dsimp only at HR
  clear hr
  have z := fun w => ann_neq0 a12 a13 a14 a15 a16 a17 a18 a19 a20 w
  rw [hz] at z
  have Hz := hide z
  clear hz z
  have HB := hide ((Below.refl w.heap.size w).alloc (Nat.le_refl _) (.cells #[.int .i64 a0, .int .i64 a1, .int .i64 a2, .int .i64 a3, .int .u64 a4, .int .i64 a5, .int .i64 a6, .int .i64 a7, .int .i64 a8, .int .i64 a9, .int .u64 a10, .int .i64 a11, .int .i64 a12, .int .i64 a13, .int .i64 a14, .int .i64 a15, .int .i64 a16, .int .i64 a17, .int .u64 a18, .int .i64 a19, .int .i64 a20] 28))
  have H0 := hide (Blk.new w 28 [.int .i64 a0, .int .i64 a1, .int .i64 a2, .int .i64 a3, .int .u64 a4, .int .i64 a5, .int .i64 a6, .int .i64 a7, .int .i64 a8, .int .i64 a9, .int .u64 a10, .int .i64 a11, .int .i64 a12, .int .i64 a13, .int .i64 a14, .int .i64 a15, .int .i64 a16, .int .i64 a17, .int .u64 a18, .int .i64 a19, .int .i64 a20])
  have k0 := Blk.cell H0.out 0
  simp only [List.getElem?_cons_zero] at k0
  go_enter Try.func9, Try.ntmps9
  go_wp2_with fail
  refine (HS.out _).mono ?_
  rintro e w1 ⟨rfl, hB1⟩
  have Hb1 := hide (Blk.below' H0.out hB1)
  have hW1 := below_step HB.out hB1 HB.out.size
  clear k0 hB1
  have hld := Hb1.out
  go_wp2_with (refine wpList_load_mid rfl 28 _ rfl _ 0 rfl _ _ (range21 hld) Try.underlying28 rfl info21 ?_)
  refine (HR.out _).mono ?_
  rintro e w2 ⟨rfl, hB2⟩
  have Hb2 := hide (Blk.below' Hb1.out hB2)
  have hW2 := below_step hW1 hB2 hW1.size
  clear hB2 hld
  obtain ⟨l0, l1, l2, l3, l4, l5, l6, l7, l8, l9, l10, l11, l12, l13, l14, l15, l16, l17, l18, l19, l20⟩ := blk21 Hb2.out
  have z := Hz.out
  go_wp2_with (go_at_call 21; refine (requester_any _ _).mono ?_; rintro e w3 ⟨rfl, rfl⟩; rw [Hq.out])
  go_ret
  exact ⟨rfl, hW2⟩

theorem ptpCheck_any (p : Ptp) (w : World) (hk : -9223372036854775808 ≤ p.kind ∧ p.kind ≤ 9223372036854775807) : Calls Try.prog 9 #[p.val] w fun e w' => e = .returned (.int .i64 (ptpCheck p)) ∧ Below w.heap.size w w' := by
  obtain ⟨a0, a1, a2, a3, a4, a5, a6, a7, a8, a9, a10, a11, a12, a13, a14, a15, a16, a17, a18, a19, a20⟩ := p
  dsimp only at hk
  have hv : Ptp.val ⟨a0, a1, a2, a3, a4, a5, a6, a7, a8, a9, a10, a11, a12, a13, a14, a15, a16, a17, a18, a19, a20⟩ = .agg #[.int .i64 a0, .int .i64 a1, .int .i64 a2, .int .i64 a3, .int .u64 a4, .int .i64 a5, .int .i64 a6, .int .i64 a7, .int .i64 a8, .int .i64 a9, .int .u64 a10, .int .i64 a11, .int .i64 a12, .int .i64 a13, .int .i64 a14, .int .i64 a15, .int .i64 a16, .int .i64 a17, .int .u64 a18, .int .i64 a19, .int .i64 a20] := rfl
  rw [hv]
  unfold ptpCheck
  dsimp only
  by_cases h0 : sizeOfKind a0 = 0
  · rw [if_pos h0]
    exact chk0 a0 a1 a2 a3 a4 a5 a6 a7 a8 a9 a10 a11 a12 a13 a14 a15 a16 a17 a18 a19 a20 0 _ w hk h0 rfl rfl
  · rw [if_neg h0]
    have h0' : (sizeOfKind a0 == 0) = false := by simpa using h0
    cases hr : inRangeB ⟨a0, a1, a2, a3, a4, a5, a6, a7, a8, a9, a10, a11, a12, a13, a14, a15, a16, a17, a18, a19, a20⟩
    · rw [if_pos rfl]
      exact chk1 a0 a1 a2 a3 a4 a5 a6 a7 a8 a9 a10 a11 a12 a13 a14 a15 a16 a17 a18 a19 a20 _ _ w hk rfl rfl h0' hr
    · rw [if_neg (by simp)]
      cases hq : isReq a0
      · by_cases hc : a10 = 0
        · subst hc
          by_cases hd : a11 = 0
          · subst hd
            rw [if_neg (by simp)]
            by_cases h11 : a0 = 11
            · subst h11
              rw [if_neg (by simp)]
              exact chk4 a1 a2 a3 a4 a5 a6 a7 a8 a9 a12 a13 a14 a15 a16 a17 a18 a19 a20 _ false w hk rfl hq h0' hr rfl
            · cases hz : annZero ⟨a0, a1, a2, a3, a4, a5, a6, a7, a8, a9, 0, 0, a12, a13, a14, a15, a16, a17, a18, a19, a20⟩
              · rw [if_pos ⟨h11, rfl⟩]
                exact chk5 a0 a1 a2 a3 a4 a5 a6 a7 a8 a9 a12 a13 a14 a15 a16 a17 a18 a19 a20 _ false w hk rfl hq h0' hr rfl (by simpa using h11) hz
              · rw [if_neg (by simp)]
                exact chk6 a0 a1 a2 a3 a4 a5 a6 a7 a8 a9 a12 a13 a14 a15 a16 a17 a18 a19 a20 _ false w hk rfl hq h0' hr rfl (by simpa using h11) hz
          · rw [if_pos ⟨rfl, .inr hd⟩]
            exact chk3 a0 a1 a2 a3 a4 a5 a6 a7 a8 a9 a11 a12 a13 a14 a15 a16 a17 a18 a19 a20 _ false w hk rfl hq h0' hr rfl (by simpa using hd)
        · rw [if_pos ⟨rfl, .inl hc⟩]
          exact chk2 a0 a1 a2 a3 a4 a5 a6 a7 a8 a9 a10 a11 a12 a13 a14 a15 a16 a17 a18 a19 a20 _ false w hk rfl hq h0' hr rfl (by simpa using hc)
      · have h11 : a0 ≠ 11 := by
          intro h
          rw [h] at hq
          exact absurd hq (by decide)
        rw [if_neg (by simp)]
        cases hz : annZero ⟨a0, a1, a2, a3, a4, a5, a6, a7, a8, a9, a10, a11, a12, a13, a14, a15, a16, a17, a18, a19, a20⟩
        · rw [if_pos ⟨h11, rfl⟩]
          exact chk7 a0 a1 a2 a3 a4 a5 a6 a7 a8 a9 a10 a11 a12 a13 a14 a15 a16 a17 a18 a19 a20 _ true w hk rfl hq h0' hr rfl (by simpa using h11) hz
        · rw [if_neg (by simp)]
          exact chk8 a0 a1 a2 a3 a4 a5 a6 a7 a8 a9 a10 a11 a12 a13 a14 a15 a16 a17 a18 a19 a20 _ true w hk rfl hq h0' hr rfl (by simpa using h11) hz
end Go.Proofs.Ytlobddhpkemklaa
