/- Messages are checked, and compared.
  SEATS: ptp -/
import Derived.Test.YtlobddhpkemklaaPtp
import Derived.Laws.StructEq
namespace Go.Proofs.Ytlobddhpkemklaa
open Go.RowKit
set_option linter.unusedVariables false

def inRangeB (p : Ptp) : Bool := inB p.dom 0 255 && (inB p.flags 0 65535 && (inB p.port 0 65535 && (inB p.seq 0 65535 && (inB p.logi (-128) 127 && (stampOk p.sec p.nano && (inB p.rport 0 65535 && (inB p.utc (-32768) 32767 && (inB p.p1 0 255 && (inB p.cls 0 255 && (inB p.acc 0 255 && (inB p.var 0 65535 && (inB p.p2 0 255 && (inB p.steps 0 65535 && (inB p.src 0 255))))))))))))))
def annZero (p : Ptp) : Bool := p.utc == 0 && (p.p1 == 0 && (p.cls == 0 && (p.acc == 0 && (p.var == 0 && (p.p2 == 0 && (p.gm == 0 && (p.steps == 0 && (p.src == 0))))))))
def annBeq (p q : Ptp) : Bool := p.utc == q.utc && (p.p1 == q.p1 && (p.cls == q.cls && (p.acc == q.acc && (p.var == q.var && (p.p2 == q.p2 && (p.gm == q.gm && (p.steps == q.steps && (p.src == q.src))))))))
def ptpBeq (p q : Ptp) : Bool := p.kind == q.kind && (p.dom == q.dom && (p.flags == q.flags && (p.corr == q.corr && (p.clock == q.clock && (p.port == q.port && (p.seq == q.seq && (p.logi == q.logi && (p.sec == q.sec && (p.nano == q.nano && (p.rclock == q.rclock && (p.rport == q.rport && (annBeq p q))))))))))))
def ptpCheck (p : Ptp) : Int :=
  if sizeOfKind p.kind = 0 then 8 else if inRangeB p = false then 3 else if isReq p.kind = false ∧ (p.rclock ≠ 0 ∨ p.rport ≠ 0) then 7 else if p.kind ≠ 11 ∧ annZero p = false then 7 else 0

theorem ptpBeq_iff (p q : Ptp) : ptpBeq p q = true ↔ p = q := by
  obtain ⟨a0, a1, a2, a3, a4, a5, a6, a7, a8, a9, a10, a11, a12, a13, a14, a15, a16, a17, a18, a19, a20⟩ := p
  obtain ⟨b0, b1, b2, b3, b4, b5, b6, b7, b8, b9, b10, b11, b12, b13, b14, b15, b16, b17, b18, b19, b20⟩ := q
  simp [ptpBeq, annBeq]

set_option maxHeartbeats 8000000 in
theorem inRange_any (p : Ptp) (w : World) : Calls Try.prog 20 #[p.val] w fun e w' => e = .returned (.bool (inRangeB p)) ∧ Below w.heap.size w w' := by
  obtain ⟨a0, a1, a2, a3, a4, a5, a6, a7, a8, a9, a10, a11, a12, a13, a14, a15, a16, a17, a18, a19, a20⟩ := p
  have hB := ((Below.refl w.heap.size w).alloc (Nat.le_refl _) (.cells #[.int .i64 a0, .int .i64 a1, .int .i64 a2, .int .i64 a3, .int .u64 a4, .int .i64 a5, .int .i64 a6, .int .i64 a7, .int .i64 a8, .int .i64 a9, .int .u64 a10, .int .i64 a11, .int .i64 a12, .int .i64 a13, .int .i64 a14, .int .i64 a15, .int .i64 a16, .int .i64 a17, .int .u64 a18, .int .i64 a19, .int .i64 a20] 28)).alloc (by simp) (.cells #[.int .i64 a12, .int .i64 a13, .int .i64 a14, .int .i64 a15, .int .i64 a16, .int .i64 a17, .int .u64 a18, .int .i64 a19, .int .i64 a20] 26)
  have hb0 := (Blk.new w 28 [.int .i64 a0, .int .i64 a1, .int .i64 a2, .int .i64 a3, .int .u64 a4, .int .i64 a5, .int .i64 a6, .int .i64 a7, .int .i64 a8, .int .i64 a9, .int .u64 a10, .int .i64 a11, .int .i64 a12, .int .i64 a13, .int .i64 a14, .int .i64 a15, .int .i64 a16, .int .i64 a17, .int .u64 a18, .int .i64 a19, .int .i64 a20]).alloc (.cells #[.int .i64 a12, .int .i64 a13, .int .i64 a14, .int .i64 a15, .int .i64 a16, .int .i64 a17, .int .u64 a18, .int .i64 a19, .int .i64 a20] 26)
  have hb1 : Blk ((w.alloc (.cells #[.int .i64 a0, .int .i64 a1, .int .i64 a2, .int .i64 a3, .int .u64 a4, .int .i64 a5, .int .i64 a6, .int .i64 a7, .int .i64 a8, .int .i64 a9, .int .u64 a10, .int .i64 a11, .int .i64 a12, .int .i64 a13, .int .i64 a14, .int .i64 a15, .int .i64 a16, .int .i64 a17, .int .u64 a18, .int .i64 a19, .int .i64 a20] 28)).alloc (.cells #[.int .i64 a12, .int .i64 a13, .int .i64 a14, .int .i64 a15, .int .i64 a16, .int .i64 a17, .int .u64 a18, .int .i64 a19, .int .i64 a20] 26)) (w.heap.size + 1) 26 [.int .i64 a12, .int .i64 a13, .int .i64 a14, .int .i64 a15, .int .i64 a16, .int .i64 a17, .int .u64 a18, .int .i64 a19, .int .i64 a20] := by
    have := Blk.new (w.alloc (.cells #[.int .i64 a0, .int .i64 a1, .int .i64 a2, .int .i64 a3, .int .u64 a4, .int .i64 a5, .int .i64 a6, .int .i64 a7, .int .i64 a8, .int .i64 a9, .int .u64 a10, .int .i64 a11, .int .i64 a12, .int .i64 a13, .int .i64 a14, .int .i64 a15, .int .i64 a16, .int .i64 a17, .int .u64 a18, .int .i64 a19, .int .i64 a20] 28)) 26 [.int .i64 a12, .int .i64 a13, .int .i64 a14, .int .i64 a15, .int .i64 a16, .int .i64 a17, .int .u64 a18, .int .i64 a19, .int .i64 a20]
    simpa using this
  have HB := hide hB
  have H0 := hide hb0
  have H1 := hide hb1
  clear hB hb0 hb1
  unfold inRangeB Ptp.val Ptp.cells
  dsimp only
  cases e0 : inB a1 0 255
  · go_enter Try.func20, Try.ntmps20
    go_wp2_with (first
      | (go_at_call 43; refine (within_any _ _ _ _).mono ?_; rintro e w2 ⟨rfl, rfl⟩)
      | (go_at_call 42; refine (stampCheck_any _ _ _).mono ?_; rintro e w2 ⟨rfl, hB2⟩; rw [hse]))
    go_ret
    exact ⟨rfl, HB.out⟩
  cases e1 : inB a2 0 65535
  · go_enter Try.func20, Try.ntmps20
    go_wp2_with (first
      | (go_at_call 43; refine (within_any _ _ _ _).mono ?_; rintro e w2 ⟨rfl, rfl⟩)
      | (go_at_call 42; refine (stampCheck_any _ _ _).mono ?_; rintro e w2 ⟨rfl, hB2⟩; rw [hse]))
    go_ret
    exact ⟨rfl, HB.out⟩
  cases e2 : inB a5 0 65535
  · go_enter Try.func20, Try.ntmps20
    go_wp2_with (first
      | (go_at_call 43; refine (within_any _ _ _ _).mono ?_; rintro e w2 ⟨rfl, rfl⟩)
      | (go_at_call 42; refine (stampCheck_any _ _ _).mono ?_; rintro e w2 ⟨rfl, hB2⟩; rw [hse]))
    go_ret
    exact ⟨rfl, HB.out⟩
  cases e3 : inB a6 0 65535
  · go_enter Try.func20, Try.ntmps20
    go_wp2_with (first
      | (go_at_call 43; refine (within_any _ _ _ _).mono ?_; rintro e w2 ⟨rfl, rfl⟩)
      | (go_at_call 42; refine (stampCheck_any _ _ _).mono ?_; rintro e w2 ⟨rfl, hB2⟩; rw [hse]))
    go_ret
    exact ⟨rfl, HB.out⟩
  cases e4 : inB a7 (-128) 127
  · go_enter Try.func20, Try.ntmps20
    go_wp2_with (first
      | (go_at_call 43; refine (within_any _ _ _ _).mono ?_; rintro e w2 ⟨rfl, rfl⟩)
      | (go_at_call 42; refine (stampCheck_any _ _ _).mono ?_; rintro e w2 ⟨rfl, hB2⟩; rw [hse]))
    go_ret
    exact ⟨rfl, HB.out⟩
  cases e5 : stampOk a8 a9
  · have hse : stampErr a8 a9 = 3 := by unfold stampErr; rw [e5]; rfl
    go_enter Try.func20, Try.ntmps20
    go_wp2_with (first
      | (go_at_call 43; refine (within_any _ _ _ _).mono ?_; rintro e w2 ⟨rfl, rfl⟩)
      | (go_at_call 42; refine (stampCheck_any _ _ _).mono ?_; rintro e w2 ⟨rfl, hB2⟩; rw [hse]))
    go_ret
    exact ⟨rfl, below_step HB.out hB2 HB.out.size⟩
  have hse : stampErr a8 a9 = 0 := by unfold stampErr; rw [e5]; rfl
  cases e6 : inB a11 0 65535
  · go_enter Try.func20, Try.ntmps20
    go_wp2_with (first
      | (go_at_call 43; refine (within_any _ _ _ _).mono ?_; rintro e w2 ⟨rfl, rfl⟩)
      | (go_at_call 42; refine (stampCheck_any _ _ _).mono ?_; rintro e w2 ⟨rfl, hB2⟩; rw [hse]; have hq0 := Blk.below' H0.out hB2; have hq1 := Blk.below' H1.out hB2; have c0 := hq1.cell 0; have c1 := hq1.cell 1; have c2 := hq1.cell 2; have c3 := hq1.cell 3; have c4 := hq1.cell 4; have c5 := hq1.cell 5; have c6 := hq1.cell 6; have c7 := hq1.cell 7; have c8 := hq1.cell 8; have d11 := hq0.cell 11; simp only [List.getElem?_cons_zero, List.getElem?_cons_succ] at c0 c1 c2 c3 c4 c5 c6 c7 c8 d11; clear hq0 hq1))
    go_ret
    exact ⟨rfl, below_step HB.out hB2 HB.out.size⟩
  cases e7 : inB a12 (-32768) 32767
  · go_enter Try.func20, Try.ntmps20
    go_wp2_with (first
      | (go_at_call 43; refine (within_any _ _ _ _).mono ?_; rintro e w2 ⟨rfl, rfl⟩)
      | (go_at_call 42; refine (stampCheck_any _ _ _).mono ?_; rintro e w2 ⟨rfl, hB2⟩; rw [hse]; have hq0 := Blk.below' H0.out hB2; have hq1 := Blk.below' H1.out hB2; have c0 := hq1.cell 0; have c1 := hq1.cell 1; have c2 := hq1.cell 2; have c3 := hq1.cell 3; have c4 := hq1.cell 4; have c5 := hq1.cell 5; have c6 := hq1.cell 6; have c7 := hq1.cell 7; have c8 := hq1.cell 8; have d11 := hq0.cell 11; simp only [List.getElem?_cons_zero, List.getElem?_cons_succ] at c0 c1 c2 c3 c4 c5 c6 c7 c8 d11; clear hq0 hq1))
    go_ret
    exact ⟨rfl, below_step HB.out hB2 HB.out.size⟩
  cases e8 : inB a13 0 255
  · go_enter Try.func20, Try.ntmps20
    go_wp2_with (first
      | (go_at_call 43; refine (within_any _ _ _ _).mono ?_; rintro e w2 ⟨rfl, rfl⟩)
      | (go_at_call 42; refine (stampCheck_any _ _ _).mono ?_; rintro e w2 ⟨rfl, hB2⟩; rw [hse]; have hq0 := Blk.below' H0.out hB2; have hq1 := Blk.below' H1.out hB2; have c0 := hq1.cell 0; have c1 := hq1.cell 1; have c2 := hq1.cell 2; have c3 := hq1.cell 3; have c4 := hq1.cell 4; have c5 := hq1.cell 5; have c6 := hq1.cell 6; have c7 := hq1.cell 7; have c8 := hq1.cell 8; have d11 := hq0.cell 11; simp only [List.getElem?_cons_zero, List.getElem?_cons_succ] at c0 c1 c2 c3 c4 c5 c6 c7 c8 d11; clear hq0 hq1))
    go_ret
    exact ⟨rfl, below_step HB.out hB2 HB.out.size⟩
  cases e9 : inB a14 0 255
  · go_enter Try.func20, Try.ntmps20
    go_wp2_with (first
      | (go_at_call 43; refine (within_any _ _ _ _).mono ?_; rintro e w2 ⟨rfl, rfl⟩)
      | (go_at_call 42; refine (stampCheck_any _ _ _).mono ?_; rintro e w2 ⟨rfl, hB2⟩; rw [hse]; have hq0 := Blk.below' H0.out hB2; have hq1 := Blk.below' H1.out hB2; have c0 := hq1.cell 0; have c1 := hq1.cell 1; have c2 := hq1.cell 2; have c3 := hq1.cell 3; have c4 := hq1.cell 4; have c5 := hq1.cell 5; have c6 := hq1.cell 6; have c7 := hq1.cell 7; have c8 := hq1.cell 8; have d11 := hq0.cell 11; simp only [List.getElem?_cons_zero, List.getElem?_cons_succ] at c0 c1 c2 c3 c4 c5 c6 c7 c8 d11; clear hq0 hq1))
    go_ret
    exact ⟨rfl, below_step HB.out hB2 HB.out.size⟩
  cases e10 : inB a15 0 255
  · go_enter Try.func20, Try.ntmps20
    go_wp2_with (first
      | (go_at_call 43; refine (within_any _ _ _ _).mono ?_; rintro e w2 ⟨rfl, rfl⟩)
      | (go_at_call 42; refine (stampCheck_any _ _ _).mono ?_; rintro e w2 ⟨rfl, hB2⟩; rw [hse]; have hq0 := Blk.below' H0.out hB2; have hq1 := Blk.below' H1.out hB2; have c0 := hq1.cell 0; have c1 := hq1.cell 1; have c2 := hq1.cell 2; have c3 := hq1.cell 3; have c4 := hq1.cell 4; have c5 := hq1.cell 5; have c6 := hq1.cell 6; have c7 := hq1.cell 7; have c8 := hq1.cell 8; have d11 := hq0.cell 11; simp only [List.getElem?_cons_zero, List.getElem?_cons_succ] at c0 c1 c2 c3 c4 c5 c6 c7 c8 d11; clear hq0 hq1))
    go_ret
    exact ⟨rfl, below_step HB.out hB2 HB.out.size⟩
  cases e11 : inB a16 0 65535
  · go_enter Try.func20, Try.ntmps20
    go_wp2_with (first
      | (go_at_call 43; refine (within_any _ _ _ _).mono ?_; rintro e w2 ⟨rfl, rfl⟩)
      | (go_at_call 42; refine (stampCheck_any _ _ _).mono ?_; rintro e w2 ⟨rfl, hB2⟩; rw [hse]; have hq0 := Blk.below' H0.out hB2; have hq1 := Blk.below' H1.out hB2; have c0 := hq1.cell 0; have c1 := hq1.cell 1; have c2 := hq1.cell 2; have c3 := hq1.cell 3; have c4 := hq1.cell 4; have c5 := hq1.cell 5; have c6 := hq1.cell 6; have c7 := hq1.cell 7; have c8 := hq1.cell 8; have d11 := hq0.cell 11; simp only [List.getElem?_cons_zero, List.getElem?_cons_succ] at c0 c1 c2 c3 c4 c5 c6 c7 c8 d11; clear hq0 hq1))
    go_ret
    exact ⟨rfl, below_step HB.out hB2 HB.out.size⟩
  cases e12 : inB a17 0 255
  · go_enter Try.func20, Try.ntmps20
    go_wp2_with (first
      | (go_at_call 43; refine (within_any _ _ _ _).mono ?_; rintro e w2 ⟨rfl, rfl⟩)
      | (go_at_call 42; refine (stampCheck_any _ _ _).mono ?_; rintro e w2 ⟨rfl, hB2⟩; rw [hse]; have hq0 := Blk.below' H0.out hB2; have hq1 := Blk.below' H1.out hB2; have c0 := hq1.cell 0; have c1 := hq1.cell 1; have c2 := hq1.cell 2; have c3 := hq1.cell 3; have c4 := hq1.cell 4; have c5 := hq1.cell 5; have c6 := hq1.cell 6; have c7 := hq1.cell 7; have c8 := hq1.cell 8; have d11 := hq0.cell 11; simp only [List.getElem?_cons_zero, List.getElem?_cons_succ] at c0 c1 c2 c3 c4 c5 c6 c7 c8 d11; clear hq0 hq1))
    go_ret
    exact ⟨rfl, below_step HB.out hB2 HB.out.size⟩
  cases e13 : inB a19 0 65535
  · go_enter Try.func20, Try.ntmps20
    go_wp2_with (first
      | (go_at_call 43; refine (within_any _ _ _ _).mono ?_; rintro e w2 ⟨rfl, rfl⟩)
      | (go_at_call 42; refine (stampCheck_any _ _ _).mono ?_; rintro e w2 ⟨rfl, hB2⟩; rw [hse]; have hq0 := Blk.below' H0.out hB2; have hq1 := Blk.below' H1.out hB2; have c0 := hq1.cell 0; have c1 := hq1.cell 1; have c2 := hq1.cell 2; have c3 := hq1.cell 3; have c4 := hq1.cell 4; have c5 := hq1.cell 5; have c6 := hq1.cell 6; have c7 := hq1.cell 7; have c8 := hq1.cell 8; have d11 := hq0.cell 11; simp only [List.getElem?_cons_zero, List.getElem?_cons_succ] at c0 c1 c2 c3 c4 c5 c6 c7 c8 d11; clear hq0 hq1))
    go_ret
    exact ⟨rfl, below_step HB.out hB2 HB.out.size⟩
  cases e14 : inB a20 0 255
  all_goals
    go_enter Try.func20, Try.ntmps20
    go_wp2_with (first
      | (go_at_call 43; refine (within_any _ _ _ _).mono ?_; rintro e w2 ⟨rfl, rfl⟩)
      | (go_at_call 42; refine (stampCheck_any _ _ _).mono ?_; rintro e w2 ⟨rfl, hB2⟩; rw [hse]; have hq0 := Blk.below' H0.out hB2; have hq1 := Blk.below' H1.out hB2; have c0 := hq1.cell 0; have c1 := hq1.cell 1; have c2 := hq1.cell 2; have c3 := hq1.cell 3; have c4 := hq1.cell 4; have c5 := hq1.cell 5; have c6 := hq1.cell 6; have c7 := hq1.cell 7; have c8 := hq1.cell 8; have d11 := hq0.cell 11; simp only [List.getElem?_cons_zero, List.getElem?_cons_succ] at c0 c1 c2 c3 c4 c5 c6 c7 c8 d11; clear hq0 hq1))
    go_ret
    exact ⟨rfl, below_step HB.out hB2 HB.out.size⟩
end Go.Proofs.Ytlobddhpkemklaa
