/- PtpmsgDiffers: messages that differ have bytes that differ.
  SEATS: ptp -/
import Derived.Test.YtlobddhpkemklaaAwake33
import Derived.Test.YtlobddhpkemklaaPtpP
import Derived.Deep.MidRow
import Derived.Deep.RegionHeld3
namespace Go.Proofs.Ytlobddhpkemklaa
open Go.RowKit
set_option linter.unusedVariables false

theorem info21' (p : Ptp) : (Try.prog.info? 28).map (·.size) = some p.cells.length := info21
theorem ptp_end (p : Ptp) (w : World) (hin : p.In) : Calls Try.prog 14 #[.agg p.cells.toArray] w fun e w' => ∃ A n c bs, e = .returned (.tuple #[.slice A n c, .int .i64 (ptpCheck p)]) ∧ RB w' A n c bs ∧ (ptpCheck p = 0 → bs = ptpBytes p ∧ OwnB w' w.heap.size A n c bs) ∧ (ptpCheck p ≠ 0 → n = 0) ∧ Below w.heap.size w w' := by
  by_cases h : ptpCheck p = 0
  · refine (ptpEncode_ok p w hin h).mono ?_
    rintro e w' ⟨A, n, c, rfl, ho, hb⟩
    exact ⟨A, n, c, _, by rw [h], ho.rb, fun _ => ⟨rfl, ho⟩, fun h' => absurd h h', hb⟩
  · refine (ptpEncode_err p w hin.kind h).mono ?_
    rintro e w' ⟨rfl, hb⟩
    exact ⟨none, 0, 0, [], rfl, RB.nil _, fun h' => absurd h' h, fun _ => rfl, hb⟩

set_option maxHeartbeats 4000000 in
theorem ptpmsgDiffers_any (p q : Ptp) (w : World) (hp : p.In) (hq : q.In) :
    Calls Try.prog 7 #[p.val, q.val] w fun e w' => e = .returned (.bool true) ∧ Below w.heap.size w w' := by
  have HP := hide (fun w => ptp_end p w hp)
  have HQ := hide (fun w => ptp_end q w hq)
  have Hz := hide (fun w => ptp_eql p q w)
  have Hin := hide (show ptpCheck p = 0 → ptpCheck q = 0 → (ptpBytes p == ptpBytes q) = ptpBeq p q by
    intro h1 h2
    have := @ptp_inj p q h1 hp h2 hq
    cases hb : ptpBeq p q
    · have h3 : p ≠ q := fun e => by rw [(ptpBeq_iff p q).2 e] at hb; cases hb
      rw [beq_eq_false_iff_ne]
      exact fun e => h3 (this e)
    · rw [(ptpBeq_iff p q).1 hb]
      simp)
  have hP : p.val = .agg p.cells.toArray := rfl
  have hQ : q.val = .agg q.cells.toArray := rfl
  have hi1 := info21' p
  have hi2 := info21' q
  rw [hP, hQ] at Hz ⊢
  have hN := Blk.new w 28 p.cells
  have hM := Blk.new (w.alloc (.cells p.cells.toArray 28)) 28 q.cells
  have hN := hN.alloc (.cells q.cells.toArray 28)
  have hW := ((Below.refl w.heap.size w).alloc (Nat.le_refl _) (.cells p.cells.toArray 28)).alloc (by simp) (.cells q.cells.toArray 28)
  simp only [World.size_alloc] at hM
  generalize p.cells = cp at *
  generalize q.cells = cq at *
  clear hP hQ
  have q1 := range21 hN
  have q2 := range21 hM
  go_enter Try.func7, Try.ntmps7
  go_wp2_with (refine wpList_load_mid rfl 28 _ rfl _ 0 rfl _ _ q1 Try.underlying28 rfl hi1 ?_)
  refine (HP.out _).mono ?_
  rintro e w1 ⟨A1, n1, c1, bs1, rfl, hr1, hok1, hno1, hB1⟩
  have hN1 := hN.below' hB1
  have hM1 := hM.below' hB1
  have hW1 := below_step hW hB1 hW.size
  have Hok1 := hide hok1
  have q1 := range21 hN1
  have q2 := range21 hM1
  clear hN hM hW hB1 hok1 hno1 HP
  go_wp2_with (refine wpList_load_mid rfl 28 _ rfl _ 0 rfl _ _ q2 Try.underlying28 rfl hi2 ?_)
  refine (HQ.out _).mono ?_
  rintro e w2 ⟨A2, n2, c2, bs2, rfl, hr2, hok2, hno2, hB2⟩
  have hN2 := hN1.below' hB2
  have hM2 := hM1.below' hB2
  have hW2 := below_step hW1 hB2 hW1.size
  have hr1 := hr1.below hB2
  have Hok2 := hide hok2
  have q1 := range21 hN2
  have q2 := range21 hM2
  have z0 := Hz.out
  clear hN1 hM1 hW1 hB2 hok2 hno2 HQ Hz
  have HI := hide (show ptpCheck p = 0 → ptpCheck q = 0 → (bs1 == bs2) = ptpBeq p q from fun h1 h2 => by rw [(Hok1.out h1).1, (Hok2.out h2).1]; exact Hin.out h1 h2)
  clear Hok1 Hok2 Hin
  generalize ptpCheck p = r1 at *
  generalize ptpCheck q = r2 at *
  generalize ptpBeq p q = t at *
  by_cases h1 : r1 = 0
  · by_cases h2 : r2 = 0
    · have Ht := HI.out h1 h2
      subst h1 h2
      clear HI
      go_wp2_with fail
      have hN3 : Blk w2.drew w.heap.size 28 cp := hN2
      have hM3 : Blk w2.drew (w.heap.size + 1) 28 cq := hM2
      have hr1 := hr1.below (Below.refl _ _).drew
      have hr2 := hr2.below (Below.refl _ _).drew
      have hW3 := hW2.drew
      refine wp_region_held_drew (S := fun w' => w'.rangeAt w.heap.size 0 cp ∧ w'.rangeAt (w.heap.size + 1) 0 cq) (by kernel_rfl) ⟨range21 hN3, range21 hM3⟩ (fun hHeld => ?_)
      clear hN2 hM2 hW2 q1 q2
      generalize w2.drew = w3 at *
      refine wpAnyH_take (i := 0) (oi := ⟨some 26, _, _, _, _, _⟩) (v := ?_) rfl (by kernel_rfl) (by kernel_rfl) (by kernel_rfl) (fun _ _ _ h => h) (Or.inl ⟨by rfl, ?_⟩) (by assumption) ?_
      rotate_left
      · intro w hSw
        go_simp
        first | done | with_reducible rfl
      simp only [Act.put, List.setIfInBounds_toArray, List.set_cons_zero, List.set_cons_succ]
      refine wpAnyH_take (i := 1) (oi := ⟨some 27, _, _, _, _, _⟩) (v := ?_) rfl (by kernel_rfl) (by kernel_rfl) (by kernel_rfl) (fun _ _ _ h => h) (Or.inl ⟨by rfl, ?_⟩) (by assumption) ?_
      rotate_left
      · intro w hSw
        go_simp
        first | done | with_reducible rfl
      simp only [Act.put, List.setIfInBounds_toArray, List.set_cons_zero, List.set_cons_succ]
      refine wpAnyH_take (i := 3) (oi := ⟨some 29, _, _, _, _, _⟩) (v := _) rfl (by kernel_rfl) (by kernel_rfl) (by kernel_rfl) (fun _ _ _ h => h) (yieldsIf_load_mid (by rfl) 28 _ rfl _ 0 rfl _ _ (fun w hw => hw.1) Try.underlying28 rfl hi1) (by assumption) ?_
      simp only [Act.put, List.setIfInBounds_toArray, List.set_cons_zero, List.set_cons_succ]
      refine wpAnyH_take (i := 4) (oi := ⟨some 30, _, _, _, _, _⟩) (v := _) rfl (by kernel_rfl) (by kernel_rfl) (by kernel_rfl) (fun _ _ _ h => h) (yieldsIf_load_mid (by rfl) 28 _ rfl _ 0 rfl _ _ (fun w hw => hw.2) Try.underlying28 rfl hi2) (by assumption) ?_
      simp only [Act.put, List.setIfInBounds_toArray, List.set_cons_zero, List.set_cons_succ]
      refine wpAnyH_take (i := 5) (oi := ⟨some 31, _, _, _, _, _⟩) (v := ?_) rfl (by kernel_rfl) (by kernel_rfl) (by kernel_rfl) (fun _ _ _ h => h) (Or.inl ⟨by rfl, ?_⟩) (by assumption) ?_
      rotate_left
      · intro w hSw
        go_simp
        first | done | with_reducible rfl
      simp only [Act.put, List.setIfInBounds_toArray, List.set_cons_zero, List.set_cons_succ]
      refine wpAnyH_ready (rs := [2]) (by kernel_rfl) (by simp) (AllReadyH.cons (o := ⟨some 28, _, _, _, _, _⟩) rfl (fun K hK => ?_) AllReadyH.nil)
      go_simp
      refine (equal_any A1 n1 c1 bs1 A2 n2 c2 bs2 _ hr1 hr2).mono ?_; rintro e w4 ⟨rfl, rfl⟩; dsimp only; rw [Ht]
      refine hK.out _ _ hHeld (fun hHeld => ?_)
      clear hK K
      try simp only [Act.put, List.setIfInBounds_toArray, List.set_cons_zero, List.set_cons_succ]
      refine wpAnyH_take (i := 6) (oi := ⟨some 32, _, _, _, _, _⟩) (v := ?_) rfl (by kernel_rfl) (by kernel_rfl) (by kernel_rfl) (fun _ _ _ h => h) (Or.inl ⟨by rfl, ?_⟩) (by assumption) ?_
      rotate_left
      · intro w hSw
        go_simp
        first | done | with_reducible rfl
      simp only [Act.put, List.setIfInBounds_toArray, List.set_cons_zero, List.set_cons_succ]
      refine wpAnyH_take (i := 7) (oi := ⟨some 33, _, _, _, _, _⟩) (v := ?_) rfl (by kernel_rfl) (by kernel_rfl) (by kernel_rfl) (fun _ _ _ h => h) (Or.inl ⟨by rfl, ?_⟩) (by assumption) ?_
      rotate_left
      · intro w hSw
        go_simp
        first | done | with_reducible rfl
      simp only [Act.put, List.setIfInBounds_toArray, List.set_cons_zero, List.set_cons_succ]
      refine wpAnyH_ready (rs := [8]) (by kernel_rfl) (by simp) (AllReadyH.cons (o := ⟨some 34, _, _, _, _, _⟩) rfl (fun K hK => ?_) AllReadyH.nil)
      go_simp
      refine (awake33 w3).mono ?_; rintro e w4 ⟨rfl, hB4⟩; dsimp only
      refine hK.out _ _ ⟨range21 (hN3.below' hB4), range21 (hM3.below' hB4)⟩ (fun hHeld => ?_)
      clear hK K
      try simp only [Act.put, List.setIfInBounds_toArray, List.set_cons_zero, List.set_cons_succ]
      refine wpAnyH_take (i := 9) (oi := ⟨some 35, _, _, _, _, _⟩) (v := ?_) rfl (by kernel_rfl) (by kernel_rfl) (by kernel_rfl) (fun _ _ _ h => h) (Or.inl ⟨by rfl, ?_⟩) (by assumption) ?_
      rotate_left
      · intro w hSw
        go_simp
        first | done | with_reducible rfl
      simp only [Act.put, List.setIfInBounds_toArray, List.set_cons_zero, List.set_cons_succ]
      refine wpAnyH_take (i := 10) (oi := ⟨some 4, _, _, _, _, _⟩) (v := ?_) rfl (by kernel_rfl) (by kernel_rfl) (by kernel_rfl) (fun _ _ _ h => h) (Or.inl ⟨by rfl, ?_⟩) (by assumption) ?_
      rotate_left
      · intro w hSw
        go_simp
        first | done | with_reducible rfl
      simp only [Act.put, List.setIfInBounds_toArray, List.set_cons_zero, List.set_cons_succ]
      refine wpAnyH_done (by kernel_rfl) ?_ _
      go_wp2
      go_ret
      exact ⟨rfl, below_step hW3 hB4 hW3.size⟩
    · have h2' : (r2 != 0) = true := by simpa using h2
      subst h1
      clear HI h2
      go_wp2_with (go_at_call 13; refine (awake33 w2).mono ?_; rintro e w4 ⟨rfl, hB4⟩)
      go_ret
      exact ⟨rfl, below_step hW2 hB4 hW2.size⟩
  · have h1' : (r1 != 0) = true := by simpa using h1
    clear HI h1
    go_wp2_with (go_at_call 13; refine (awake33 w2).mono ?_; rintro e w4 ⟨rfl, hB4⟩)
    go_ret
    exact ⟨rfl, below_step hW2 hB4 hW2.size⟩
end Go.Proofs.Ytlobddhpkemklaa
