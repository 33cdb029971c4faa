/- Encode.
  SEATS: ptp -/
import Derived.Test.YtlobddhpkemklaaPtpW
import Derived.Test.YtlobddhpkemklaaBytes
namespace Go.Proofs.Ytlobddhpkemklaa
open Go.RowKit
set_option linter.unusedVariables false

theorem low_length (n : Int) (s : Nat) : (low n s).length = s := be_length _ _
theorem low_fit (n : Int) (s : Nat) (h0 : 0 ≤ n) (h1 : n < 2 ^ (8 * s)) : low n s = be n.toNat s := by
  unfold low
  rw [Int.emod_eq_of_lt h0 h1]

def annBytes (p : Ptp) : List UInt8 := low p.utc 2 ++ (low 0 1 ++ (low p.p1 1 ++ (low p.cls 1 ++ (low p.acc 1 ++ (low p.var 2 ++ (low p.p2 1 ++ (low (wrap64 p.gm) 8 ++ (low p.steps 2 ++ (low p.src 1)))))))))
def ptpHead (p : Ptp) : List UInt8 := low p.kind 1 ++ (low 2 1 ++ (low (sizeOfKind p.kind) 2 ++ (low p.dom 1 ++ (low 0 1 ++ (low p.flags 2 ++ (low p.corr 8 ++ (low 0 4 ++ (low (wrap64 p.clock) 8 ++ (low p.port 2 ++ (low p.seq 2 ++ (low (controlOf p.kind) 1 ++ low p.logi 1)))))))))))
def ptpTail (p : Ptp) : List UInt8 := if isReq p.kind = true then low (wrap64 p.rclock) 8 ++ low p.rport 2 else if p.kind = 2 then low 0 8 ++ low 0 2 else if p.kind = 11 then annBytes p else []
def ptpBytes (p : Ptp) : List UInt8 := ptpHead p ++ (stampBytes p.sec p.nano ++ ptpTail p)

theorem wrap64_range (n : Int) : -9223372036854775808 ≤ wrap64 n ∧ wrap64 n ≤ 9223372036854775807 := by
  unfold wrap64
  omega

set_option maxHeartbeats 2000000 in
theorem announce_any (g : Nat) (a12 a13 a14 a15 a16 a17 a18 a19 a20 : Int) (bs : List UInt8) (w : World) (h : Wr w g bs) (hl : bs.length ≤ 200) (h12 : -9223372036854775808 ≤ a12 ∧ a12 ≤ 9223372036854775807) (h13 : -9223372036854775808 ≤ a13 ∧ a13 ≤ 9223372036854775807) (h14 : -9223372036854775808 ≤ a14 ∧ a14 ≤ 9223372036854775807) (h15 : -9223372036854775808 ≤ a15 ∧ a15 ≤ 9223372036854775807) (h16 : -9223372036854775808 ≤ a16 ∧ a16 ≤ 9223372036854775807) (h17 : -9223372036854775808 ≤ a17 ∧ a17 ≤ 9223372036854775807) (h18 : 0 ≤ a18 ∧ a18 ≤ 18446744073709551615) (h19 : -9223372036854775808 ≤ a19 ∧ a19 ≤ 9223372036854775807) (h20 : -9223372036854775808 ≤ a20 ∧ a20 ≤ 9223372036854775807) :
    Calls Try.prog 29 #[.pointer (some ⟨g, 0, none⟩), .agg #[.int .i64 a12, .int .i64 a13, .int .i64 a14, .int .i64 a15, .int .i64 a16, .int .i64 a17, .int .u64 a18, .int .i64 a19, .int .i64 a20]] w fun e w' => e = .returned (.tuple #[]) ∧ Wr w' g (bs ++ (low a12 2 ++ (low 0 1 ++ (low a13 1 ++ (low a14 1 ++ (low a15 1 ++ (low a16 2 ++ (low a17 1 ++ (low (wrap64 a18) 8 ++ (low a19 2 ++ (low a20 1))))))))))) ∧ w.grownBy w' (some g) := by
  have hglt : g < w.heap.size := by
    obtain ⟨A, m, c, base, h1, h2, h3, h4⟩ := h
    exact h1.lt
  have hne : some w.heap.size ≠ some g := by simp; omega
  have hB := (Below.refl w.heap.size w).alloc (Nat.le_refl _) (.cells #[.int .i64 a12, .int .i64 a13, .int .i64 a14, .int .i64 a15, .int .i64 a16, .int .i64 a17, .int .u64 a18, .int .i64 a19, .int .i64 a20] 26)
  have hb := Blk.new w 26 [.int .i64 a12, .int .i64 a13, .int .i64 a14, .int .i64 a15, .int .i64 a16, .int .i64 a17, .int .u64 a18, .int .i64 a19, .int .i64 a20]
  have hw := h.grown hB
  have hG := grown_of_below hB (some g)
  clear h hB
  go_enter Try.func29, Try.ntmps29
  have c0 := hb.cell 0
  simp only [List.getElem?_cons_zero] at c0
  go_wp2_with fail
  refine (wput_any g a12 2 _ _ hw (by omega) h12 (by first | omega | (simp; done) | (simp [low_length]; done) | (simp [low_length]; omega))).mono ?_
  rintro e w0 ⟨rfl, hw0, hG0⟩
  have hb := hb.grown hG0 hne
  have hG := hG.trans hG0
  have hw := hw0
  clear hw0 hG0 c0
  go_wp2_with fail
  refine (wput_any g 0 1 _ _ hw (by omega) (by omega) (by first | omega | (simp; done) | (simp [low_length]; done) | (simp [low_length]; omega))).mono ?_
  rintro e w1 ⟨rfl, hw1, hG1⟩
  have hb := hb.grown hG1 hne
  have hG := hG.trans hG1
  have hw := hw1
  clear hw1 hG1 
  have c2 := hb.cell 1
  simp only [List.getElem?_cons_zero, List.getElem?_cons_succ] at c2
  go_wp2_with fail
  refine (wput_any g a13 1 _ _ hw (by omega) h13 (by first | omega | (simp; done) | (simp [low_length]; done) | (simp [low_length]; omega))).mono ?_
  rintro e w2 ⟨rfl, hw2, hG2⟩
  have hb := hb.grown hG2 hne
  have hG := hG.trans hG2
  have hw := hw2
  clear hw2 hG2 c2
  have c3 := hb.cell 2
  simp only [List.getElem?_cons_zero, List.getElem?_cons_succ] at c3
  go_wp2_with fail
  refine (wput_any g a14 1 _ _ hw (by omega) h14 (by first | omega | (simp; done) | (simp [low_length]; done) | (simp [low_length]; omega))).mono ?_
  rintro e w3 ⟨rfl, hw3, hG3⟩
  have hb := hb.grown hG3 hne
  have hG := hG.trans hG3
  have hw := hw3
  clear hw3 hG3 c3
  have c4 := hb.cell 3
  simp only [List.getElem?_cons_zero, List.getElem?_cons_succ] at c4
  go_wp2_with fail
  refine (wput_any g a15 1 _ _ hw (by omega) h15 (by first | omega | (simp; done) | (simp [low_length]; done) | (simp [low_length]; omega))).mono ?_
  rintro e w4 ⟨rfl, hw4, hG4⟩
  have hb := hb.grown hG4 hne
  have hG := hG.trans hG4
  have hw := hw4
  clear hw4 hG4 c4
  have c5 := hb.cell 4
  simp only [List.getElem?_cons_zero, List.getElem?_cons_succ] at c5
  go_wp2_with fail
  refine (wput_any g a16 2 _ _ hw (by omega) h16 (by first | omega | (simp; done) | (simp [low_length]; done) | (simp [low_length]; omega))).mono ?_
  rintro e w5 ⟨rfl, hw5, hG5⟩
  have hb := hb.grown hG5 hne
  have hG := hG.trans hG5
  have hw := hw5
  clear hw5 hG5 c5
  have c6 := hb.cell 5
  simp only [List.getElem?_cons_zero, List.getElem?_cons_succ] at c6
  go_wp2_with fail
  refine (wput_any g a17 1 _ _ hw (by omega) h17 (by first | omega | (simp; done) | (simp [low_length]; done) | (simp [low_length]; omega))).mono ?_
  rintro e w6 ⟨rfl, hw6, hG6⟩
  have hb := hb.grown hG6 hne
  have hG := hG.trans hG6
  have hw := hw6
  clear hw6 hG6 c6
  have c7 := hb.cell 6
  simp only [List.getElem?_cons_zero, List.getElem?_cons_succ] at c7
  go_wp2_with fail
  refine (wput_any g (wrap64 a18) 8 _ _ hw (by omega) (wrap64_range _) (by first | omega | (simp; done) | (simp [low_length]; done) | (simp [low_length]; omega))).mono ?_
  rintro e w7 ⟨rfl, hw7, hG7⟩
  have hb := hb.grown hG7 hne
  have hG := hG.trans hG7
  have hw := hw7
  clear hw7 hG7 c7
  have c8 := hb.cell 7
  simp only [List.getElem?_cons_zero, List.getElem?_cons_succ] at c8
  go_wp2_with fail
  refine (wput_any g a19 2 _ _ hw (by omega) h19 (by first | omega | (simp; done) | (simp [low_length]; done) | (simp [low_length]; omega))).mono ?_
  rintro e w8 ⟨rfl, hw8, hG8⟩
  have hb := hb.grown hG8 hne
  have hG := hG.trans hG8
  have hw := hw8
  clear hw8 hG8 c8
  have c9 := hb.cell 8
  simp only [List.getElem?_cons_zero, List.getElem?_cons_succ] at c9
  go_wp2_with fail
  refine (wput_any g a20 1 _ _ hw (by omega) h20 (by first | omega | (simp; done) | (simp [low_length]; done) | (simp [low_length]; omega))).mono ?_
  rintro e w9 ⟨rfl, hw9, hG9⟩
  have hb := hb.grown hG9 hne
  have hG := hG.trans hG9
  have hw := hw9
  clear hw9 hG9 c9
  go_wp2
  go_end0
  simp only [List.append_assoc] at hw
  exact ⟨rfl, hw, hG⟩

theorem ptp_ok {p : Ptp} (h : ptpCheck p = 0) : sizeOfKind p.kind ≠ 0 ∧ inRangeB p = true := by
  unfold ptpCheck at h
  by_cases h0 : sizeOfKind p.kind = 0
  · rw [if_pos h0] at h; omega
  rw [if_neg h0] at h
  cases hr : inRangeB p
  · rw [hr, if_pos rfl] at h; omega
  · exact ⟨h0, rfl⟩
theorem inRange_stamp {p : Ptp} (h : inRangeB p = true) : stampOk p.sec p.nano = true := by
  unfold inRangeB at h
  simp only [Bool.and_eq_true] at h
  exact h.2.2.2.2.2.1

theorem ptpEncode_err (p : Ptp) (w : World) (hk : -9223372036854775808 ≤ p.kind ∧ p.kind ≤ 9223372036854775807) (h : ptpCheck p ≠ 0) : Calls Try.prog 14 #[p.val] w fun e w' => e = .returned (.tuple #[.slice none 0 0, .int .i64 (ptpCheck p)]) ∧ Below w.heap.size w w' := by
  have HC := hide (fun w => ptpCheck_any p w hk)
  have hne : (ptpCheck p != 0) = true := by simpa using h
  clear h
  generalize ptpCheck p = r at *
  unfold Ptp.val Ptp.cells at HC ⊢
  obtain ⟨a0, a1, a2, a3, a4, a5, a6, a7, a8, a9, a10, a11, a12, a13, a14, a15, a16, a17, a18, a19, a20⟩ := p
  dsimp only at *
  have hB := (Below.refl w.heap.size w).alloc (Nat.le_refl _) (.cells #[.int .i64 a0, .int .i64 a1, .int .i64 a2, .int .i64 a3, .int .u64 a4, .int .i64 a5, .int .i64 a6, .int .i64 a7, .int .i64 a8, .int .i64 a9, .int .u64 a10, .int .i64 a11, .int .i64 a12, .int .i64 a13, .int .i64 a14, .int .i64 a15, .int .i64 a16, .int .i64 a17, .int .u64 a18, .int .i64 a19, .int .i64 a20] 28)
  go_enter Try.func14, Try.ntmps14
  go_wp2_with (refine wpList_load_mid rfl 28 _ rfl _ 0 rfl _ _ (range21 (Blk.new w 28 [.int .i64 a0, .int .i64 a1, .int .i64 a2, .int .i64 a3, .int .u64 a4, .int .i64 a5, .int .i64 a6, .int .i64 a7, .int .i64 a8, .int .i64 a9, .int .u64 a10, .int .i64 a11, .int .i64 a12, .int .i64 a13, .int .i64 a14, .int .i64 a15, .int .i64 a16, .int .i64 a17, .int .u64 a18, .int .i64 a19, .int .i64 a20])) Try.underlying28 rfl info21 ?_)
  refine (HC.out _).mono ?_
  rintro e w1 ⟨rfl, hB1⟩
  go_wp2
  go_ret2
  exact ⟨rfl, below_step hB hB1 hB.size⟩

set_option maxHeartbeats 4000000 in
theorem ptpEncode_ok (p : Ptp) (w : World) (hin : p.In) (h : ptpCheck p = 0) : Calls Try.prog 14 #[p.val] w fun e w' => ∃ A n c, e = .returned (.tuple #[.slice A n c, .int .i64 0]) ∧ OwnB w' w.heap.size A n c (ptpBytes p) ∧ Below w.heap.size w w' := by
  have HC := hide (fun w => ptpCheck_any p w hin.kind)
  have HS := hide (fun w => size_any p.kind w hin.kind)
  have hst := inRange_stamp (ptp_ok h).2
  have HT := hide (fun w => stampEncode_any p.sec p.nano w hst)
  rw [h] at HC
  clear h hst
  unfold Ptp.val Ptp.cells at HC ⊢
  obtain ⟨h0, h1, h2, h3, h4, h5, h6, h7, h8, h9, h10, h11, h12, h13, h14, h15, h16, h17, h18, h19, h20⟩ := hin
  generalize hBT : ptpBytes p = BT
  have HBT := hide hBT.symm
  clear hBT
  obtain ⟨a0, a1, a2, a3, a4, a5, a6, a7, a8, a9, a10, a11, a12, a13, a14, a15, a16, a17, a18, a19, a20⟩ := p
  dsimp only at *
  have hsz : -9223372036854775808 ≤ sizeOfKind a0 ∧ sizeOfKind a0 ≤ 9223372036854775807 := by unfold sizeOfKind; split <;> (try split) <;> (try split) <;> omega
  have hct : -9223372036854775808 ≤ controlOf a0 ∧ controlOf a0 ≤ 9223372036854775807 := by unfold controlOf; split <;> (try split) <;> (try split) <;> (try split) <;> omega
  have hB := (Below.refl w.heap.size w).alloc (Nat.le_refl _) (.cells #[.int .i64 a0, .int .i64 a1, .int .i64 a2, .int .i64 a3, .int .u64 a4, .int .i64 a5, .int .i64 a6, .int .i64 a7, .int .i64 a8, .int .i64 a9, .int .u64 a10, .int .i64 a11, .int .i64 a12, .int .i64 a13, .int .i64 a14, .int .i64 a15, .int .i64 a16, .int .i64 a17, .int .u64 a18, .int .i64 a19, .int .i64 a20] 28)
  have hb0 := Blk.new w 28 [.int .i64 a0, .int .i64 a1, .int .i64 a2, .int .i64 a3, .int .u64 a4, .int .i64 a5, .int .i64 a6, .int .i64 a7, .int .i64 a8, .int .i64 a9, .int .u64 a10, .int .i64 a11, .int .i64 a12, .int .i64 a13, .int .i64 a14, .int .i64 a15, .int .i64 a16, .int .i64 a17, .int .u64 a18, .int .i64 a19, .int .i64 a20]
  go_enter Try.func14, Try.ntmps14
  go_wp2_with (refine wpList_load_mid rfl 28 _ rfl _ 0 rfl _ _ (range21 hb0) Try.underlying28 rfl info21 ?_)
  refine (HC.out _).mono ?_
  rintro e w1 ⟨rfl, hB1⟩
  have hb := (hb0.below' hB1).alloc (.cells #[.slice none 0 0] 53)
  have hW1 := below_step hB hB1 hB.size
  have hW := hW1.alloc hW1.size (.cells #[.slice none 0 0] 53)
  have hw : Wr (w1.alloc (.cells #[.slice none 0 0] 53)) w1.heap.size [] := ⟨none, 0, 0, w1.heap.size + 1, Blk.new w1 _ [.slice none 0 0], World.ownsRow_nil _ _ _ _, Nat.lt_succ_self _, by simp⟩
  have hwlt : w.heap.size < w1.heap.size := (hb0.below' hB1).lt
  have hgw := Nat.le_of_lt hwlt
  have hgk : ∀ k, some w1.heap.size = some k → w.heap.size ≤ k := by rintro k ⟨rfl⟩; exact hgw
  have hne : some w.heap.size ≠ some w1.heap.size := by simp; omega
  clear hB hb0 hB1 hW1
  have c0 := hb.cell 0
  simp only [List.getElem?_cons_zero] at c0
  go_wp2_with fail
  refine (wput_any w1.heap.size a0 1 _ _ hw (by omega) h0 (by first | omega | (simp; done) | (simp [low_length]; done) | (simp [low_length]; omega))).mono ?_
  rintro e v0 ⟨rfl, hw0, hG⟩
  have hb := hb.grown hG hne
  have hW := hW.grown hG hW.size hgk
  have hw := hw0
  clear hw0 hG c0
  go_wp2_with fail
  refine (wput_any w1.heap.size 2 1 _ _ hw (by omega) (by omega) (by first | omega | (simp; done) | (simp [low_length]; done) | (simp [low_length]; omega))).mono ?_
  rintro e v1 ⟨rfl, hw1, hG⟩
  have hb := hb.grown hG hne
  have hW := hW.grown hG hW.size hgk
  have hw := hw1
  clear hw1 hG 
  have c2 := hb.cell 0
  simp only [List.getElem?_cons_zero] at c2
  go_wp2_with fail
  refine (HS.out _).mono ?_
  rintro e ws ⟨rfl, hBs⟩
  have hb := hb.below' hBs
  have hw := hw.grown hBs
  have hW := below_step hW hBs hW.size
  clear hBs
  go_wp2_with fail
  refine (wput_any w1.heap.size (sizeOfKind a0) 2 _ _ hw (by omega) hsz (by first | omega | (simp; done) | (simp [low_length]; done) | (simp [low_length]; omega))).mono ?_
  rintro e v2 ⟨rfl, hw2, hG⟩
  have hb := hb.grown hG hne
  have hW := hW.grown hG hW.size hgk
  have hw := hw2
  clear hw2 hG c2
  have c3 := hb.cell 1
  simp only [List.getElem?_cons_zero, List.getElem?_cons_succ] at c3
  go_wp2_with fail
  refine (wput_any w1.heap.size a1 1 _ _ hw (by omega) h1 (by first | omega | (simp; done) | (simp [low_length]; done) | (simp [low_length]; omega))).mono ?_
  rintro e v3 ⟨rfl, hw3, hG⟩
  have hb := hb.grown hG hne
  have hW := hW.grown hG hW.size hgk
  have hw := hw3
  clear hw3 hG c3
  go_wp2_with fail
  refine (wput_any w1.heap.size 0 1 _ _ hw (by omega) (by omega) (by first | omega | (simp; done) | (simp [low_length]; done) | (simp [low_length]; omega))).mono ?_
  rintro e v4 ⟨rfl, hw4, hG⟩
  have hb := hb.grown hG hne
  have hW := hW.grown hG hW.size hgk
  have hw := hw4
  clear hw4 hG 
  have c5 := hb.cell 2
  simp only [List.getElem?_cons_zero, List.getElem?_cons_succ] at c5
  go_wp2_with fail
  refine (wput_any w1.heap.size a2 2 _ _ hw (by omega) h2 (by first | omega | (simp; done) | (simp [low_length]; done) | (simp [low_length]; omega))).mono ?_
  rintro e v5 ⟨rfl, hw5, hG⟩
  have hb := hb.grown hG hne
  have hW := hW.grown hG hW.size hgk
  have hw := hw5
  clear hw5 hG c5
  have c6 := hb.cell 3
  simp only [List.getElem?_cons_zero, List.getElem?_cons_succ] at c6
  go_wp2_with fail
  refine (wput_any w1.heap.size a3 8 _ _ hw (by omega) h3 (by first | omega | (simp; done) | (simp [low_length]; done) | (simp [low_length]; omega))).mono ?_
  rintro e v6 ⟨rfl, hw6, hG⟩
  have hb := hb.grown hG hne
  have hW := hW.grown hG hW.size hgk
  have hw := hw6
  clear hw6 hG c6
  go_wp2_with fail
  refine (wput_any w1.heap.size 0 4 _ _ hw (by omega) (by omega) (by first | omega | (simp; done) | (simp [low_length]; done) | (simp [low_length]; omega))).mono ?_
  rintro e v7 ⟨rfl, hw7, hG⟩
  have hb := hb.grown hG hne
  have hW := hW.grown hG hW.size hgk
  have hw := hw7
  clear hw7 hG 
  have c8 := hb.cell 4
  simp only [List.getElem?_cons_zero, List.getElem?_cons_succ] at c8
  go_wp2_with fail
  refine (wput_any w1.heap.size (wrap64 a4) 8 _ _ hw (by omega) (wrap64_range _) (by first | omega | (simp; done) | (simp [low_length]; done) | (simp [low_length]; omega))).mono ?_
  rintro e v8 ⟨rfl, hw8, hG⟩
  have hb := hb.grown hG hne
  have hW := hW.grown hG hW.size hgk
  have hw := hw8
  clear hw8 hG c8
  have c9 := hb.cell 5
  simp only [List.getElem?_cons_zero, List.getElem?_cons_succ] at c9
  go_wp2_with fail
  refine (wput_any w1.heap.size a5 2 _ _ hw (by omega) h5 (by first | omega | (simp; done) | (simp [low_length]; done) | (simp [low_length]; omega))).mono ?_
  rintro e v9 ⟨rfl, hw9, hG⟩
  have hb := hb.grown hG hne
  have hW := hW.grown hG hW.size hgk
  have hw := hw9
  clear hw9 hG c9
  have c10 := hb.cell 6
  simp only [List.getElem?_cons_zero, List.getElem?_cons_succ] at c10
  go_wp2_with fail
  refine (wput_any w1.heap.size a6 2 _ _ hw (by omega) h6 (by first | omega | (simp; done) | (simp [low_length]; done) | (simp [low_length]; omega))).mono ?_
  rintro e v10 ⟨rfl, hw10, hG⟩
  have hb := hb.grown hG hne
  have hW := hW.grown hG hW.size hgk
  have hw := hw10
  clear hw10 hG c10
  have c11 := hb.cell 0
  simp only [List.getElem?_cons_zero] at c11
  go_wp2_with fail
  refine (control_any _ _).mono ?_
  rintro e ws ⟨rfl, rfl⟩
  go_wp2_with fail
  refine (wput_any w1.heap.size (controlOf a0) 1 _ _ hw (by omega) hct (by first | omega | (simp; done) | (simp [low_length]; done) | (simp [low_length]; omega))).mono ?_
  rintro e v11 ⟨rfl, hw11, hG⟩
  have hb := hb.grown hG hne
  have hW := hW.grown hG hW.size hgk
  have hw := hw11
  clear hw11 hG c11
  have c12 := hb.cell 7
  simp only [List.getElem?_cons_zero, List.getElem?_cons_succ] at c12
  go_wp2_with fail
  refine (wput_any w1.heap.size a7 1 _ _ hw (by omega) h7 (by first | omega | (simp; done) | (simp [low_length]; done) | (simp [low_length]; omega))).mono ?_
  rintro e v12 ⟨rfl, hw12, hG⟩
  have hb := hb.grown hG hne
  have hW := hW.grown hG hW.size hgk
  have hw := hw12
  clear hw12 hG c12
  simp only [List.nil_append, List.append_assoc] at hw
  have c8 := hb.cell 8
  have c9 := hb.cell 9
  simp only [List.getElem?_cons_zero, List.getElem?_cons_succ] at c8 c9
  go_wp2_with fail
  refine (HT.out _).mono ?_
  rintro e ws ⟨A5, c5, rfl, hown5, hB5⟩
  have hb := hb.below' hB5
  have hw := hw.grown hB5
  have hW := below_step hW hB5 hW.size
  clear c8 c9 hB5
  obtain ⟨A, m, c, base, hwb, hwo, hwg, hwbs⟩ := hw
  have hwc := hwb.cell 0
  have hwf := hwb.frozen 0
  simp only [List.getElem?_cons_zero] at hwc
  obtain rfl : m = 34 := by rw [← hwo.len]; simp only [List.length_append, low_length]
  have hr5 := hown5.rb
  have hmm : 34 + 10 ≤ 140737488355328 := by omega
  go_wp2_with (refine append_bytes rfl (.tmp 74) (.tmp 75) rfl A 34 c _ A5 10 c5 _ rfl rfl base _ hwo hr5 hmm (Below.refl _ _) hwbs ?_; intro A6 n6 c6 w6 hown6 hn6 hC6 hg6 hat6; have hbw := hwb.below hC6 hwg; have hc7 := hbw.cell 0; have hf7 := hbw.frozen 0; simp only [List.getElem?_cons_zero] at hc7; have hb6 := hb.below hC6 (Nat.lt_trans hwlt hwg); have c0 := (hb6.far (p := ⟨w1.heap.size, 0, none⟩) (Nat.ne_of_lt hwlt) (.slice A6 n6 c6)).cell 0; simp only [List.getElem?_cons_zero] at c0)
  have hb := hb6
  have hW6 : Below w.heap.size w w6 := hW.trans (hC6.mono (Nat.le_of_lt (Nat.lt_trans hwlt hwg)))
  have hs6 := hC6.size
  have hbw7 := hbw.set_ 0 (.slice A6 n6 c6)
  have hb := hb.far (p := ⟨w1.heap.size, 0, none⟩) (by simp; omega) (.slice A6 n6 c6)
  have hW := hW6.setCell (p := ⟨w1.heap.size, 0, none⟩) hgw (.slice A6 n6 c6)
  have hwbs6 : base ≤ w6.heap.size := Nat.le_trans hwbs hs6
  have hw : Wr (w6.setCell ⟨w1.heap.size, 0, none⟩ (.slice A6 n6 c6)) w1.heap.size _ := ⟨A6, n6, c6, base, hbw7, own_set hown6 hwg, hwg, by simpa using hwbs6⟩
  clear hwb hwo hwc hwf hr5 hown5 hown6 hn6 hg6 hat6 hC6 hmm hbw hbw7 hW6
  refine (requester_any _ _).mono ?_
  rintro e ws ⟨rfl, rfl⟩
  clear c0 hc7 hf7
  generalize w6.setCell ⟨w1.heap.size, 0, none⟩ (.slice A6 n6 c6) = wz at *
  cases hq : isReq a0
  · by_cases h2 : a0 = 2
    · have h2b : (a0 == 2) = true := by rw [h2]; rfl
      have H2 := hide h2
      clear h2
      have c0 := hb.cell 0
      simp only [List.getElem?_cons_zero] at c0
      go_wp2_with fail
      refine (wput_any w1.heap.size 0 8 _ _ hw (by omega) (by omega) (by simp [low_length, stampBytes, be_length])).mono ?_
      rintro e v30 ⟨rfl, hw30, hG⟩
      have hb := hb.grown hG hne
      have hW := hW.grown hG hW.size hgk
      have hw := hw30
      clear hw30 hG c0
      go_wp2_with fail
      refine (wput_any w1.heap.size 0 2 _ _ hw (by omega) (by omega) (by simp [low_length, stampBytes, be_length])).mono ?_
      rintro e v31 ⟨rfl, hw31, hG⟩
      have hb := hb.grown hG hne
      have hW := hW.grown hG hW.size hgk
      have hw := hw31
      clear hw31 hG 
      obtain ⟨A9, m9, c9, base9, q1, q2, q3, q4⟩ := hw
      have qc := q1.cell 0
      simp only [List.getElem?_cons_zero] at qc
      go_wp2
      go_ret2
      exact ⟨A9, m9, c9, rfl, (q2.mono (Nat.le_of_lt (Nat.lt_trans hwlt q3))).cast (by rw [HBT.out]; unfold ptpBytes ptpHead ptpTail annBytes; dsimp only; rw [if_neg (by rw [hq]; simp), if_pos H2.out]; simp only [List.append_assoc]), hW⟩
    · have h2b : (a0 == 2) = false := by simpa using h2
      by_cases h11 : a0 = 11
      · have h11b : (a0 == 11) = true := by rw [h11]; rfl
        have H11 := hide h11
        clear h11
        obtain ⟨c0, c1, c2, c3, c4, c5, c6, c7, c8, c9, c10, c11, c12, c13, c14, c15, c16, c17, c18, c19, c20⟩ := blk21 hb
        clear c1 c2 c3 c4 c5 c6 c7 c8 c9 c10 c11
        go_wp2_with fail
        refine (announce_any w1.heap.size a12 a13 a14 a15 a16 a17 a18 a19 a20 _ wz hw (by simp [low_length, stampBytes, be_length]) h12 h13 h14 h15 h16 h17 h18 h19 h20).mono ?_
        rintro e v20 ⟨rfl, hw20, hG⟩
        have hW := hW.grown hG hW.size hgk
        have hw := hw20
        clear hw20 hG c0 c12 c13 c14 c15 c16 c17 c18 c19 c20
        obtain ⟨A9, m9, c9, base9, q1, q2, q3, q4⟩ := hw
        have qc := q1.cell 0
        simp only [List.getElem?_cons_zero] at qc
        go_wp2
        go_ret2
        exact ⟨A9, m9, c9, rfl, (q2.mono (Nat.le_of_lt (Nat.lt_trans hwlt q3))).cast (by rw [HBT.out]; unfold ptpBytes ptpHead ptpTail annBytes; dsimp only; rw [if_neg (by rw [hq]; simp), if_neg h2, if_pos H11.out]; simp only [List.append_assoc]), hW⟩
      · have h11b : (a0 == 11) = false := by simpa using h11
        have c0 := hb.cell 0
        simp only [List.getElem?_cons_zero] at c0
        obtain ⟨A9, m9, c9, base9, q1, q2, q3, q4⟩ := hw
        have qc := q1.cell 0
        simp only [List.getElem?_cons_zero] at qc
        go_wp2
        go_ret2
        exact ⟨A9, m9, c9, rfl, (q2.mono (Nat.le_of_lt (Nat.lt_trans hwlt q3))).cast (by rw [HBT.out]; unfold ptpBytes ptpHead ptpTail annBytes; dsimp only; rw [if_neg (by rw [hq]; simp), if_neg h2, if_neg h11]; simp only [List.append_assoc, List.append_nil]), hW⟩
  · have c10 := hb.cell 10
    simp only [List.getElem?_cons_zero, List.getElem?_cons_succ] at c10
    go_wp2_with fail
    refine (wput_any w1.heap.size (wrap64 a10) 8 _ _ hw (by omega) (wrap64_range _) (by simp [low_length, stampBytes, be_length])).mono ?_
    rintro e v32 ⟨rfl, hw32, hG⟩
    have hb := hb.grown hG hne
    have hW := hW.grown hG hW.size hgk
    have hw := hw32
    clear hw32 hG c10
    have c11 := hb.cell 11
    simp only [List.getElem?_cons_zero, List.getElem?_cons_succ] at c11
    go_wp2_with fail
    refine (wput_any w1.heap.size a11 2 _ _ hw (by omega) h11 (by simp [low_length, stampBytes, be_length])).mono ?_
    rintro e v33 ⟨rfl, hw33, hG⟩
    have hb := hb.grown hG hne
    have hW := hW.grown hG hW.size hgk
    have hw := hw33
    clear hw33 hG c11
    obtain ⟨A9, m9, c9, base9, q1, q2, q3, q4⟩ := hw
    have qc := q1.cell 0
    simp only [List.getElem?_cons_zero] at qc
    go_wp2
    go_ret2
    exact ⟨A9, m9, c9, rfl, (q2.mono (Nat.le_of_lt (Nat.lt_trans hwlt q3))).cast (by rw [HBT.out]; unfold ptpBytes ptpHead ptpTail annBytes; dsimp only; rw [if_pos hq]; simp only [List.append_assoc]), hW⟩
end Go.Proofs.Ytlobddhpkemklaa
