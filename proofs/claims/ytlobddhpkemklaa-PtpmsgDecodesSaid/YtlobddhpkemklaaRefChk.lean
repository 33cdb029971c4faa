/- The reference's Check.
  SEATS: ptp -/
import Derived.Test.YtlobddhpkemklaaRefP
import Derived.Test.YtlobddhpkemklaaAwake33
namespace Go.Proofs.Ytlobddhpkemklaa
open Go.RowKit
set_option linter.unusedVariables false

theorem wpList_load_g {P : Program} {ops : Array Oper} {rest : List Oper} {op : Oper} {a : Act} {w : World} {Q : Exit → Act → World → Prop} (ty : TypeId) (x : Operand) (ho : op.op = .load ty x)
    (hw : Region.wanted op (yielded ops a.tmps) = true) (b o : Nat) (hx : a.eval x = .pointer (some ⟨b, o, none⟩)) (cs : List Value) (d : TypeDesc) (hc : w.rangeAt b o cs)
    (hu : P.underlying ty = some d) (hd : d.isRow = true) (hi : (P.info? ty).map (·.size) = some cs.length)
    (h : wpList P ops Q rest (a.put op.dst (.agg cs.toArray)) w) : wpList P ops Q (op :: rest) a w :=
  wpList_wanted hw fun _ hK => wp_load_mid ty x ho b o hx cs d hc hu hd hi (hK _ _ h)
def Ptp.ann (p : Ptp) : List Value := [.int .i64 p.utc, .int .i64 p.p1, .int .i64 p.cls, .int .i64 p.acc, .int .i64 p.var, .int .i64 p.p2, .int .u64 p.gm, .int .i64 p.steps, .int .i64 p.src]
theorem info9 : (Try.prog.info? 26).map (·.size) = some 9 := by kernel_rfl
theorem there_blk {w : World} {g t n : Nat} {cs : List Value} (h : Blk w g t cs) (hl : n = cs.length) : w.there g 0 n := fun j hj => ⟨by rw [Nat.zero_add, h.cell, List.getElem?_eq_getElem (by omega)]; rfl, h.frozen _⟩
theorem ann_range (p : Ptp) {w : World} {g : Nat} (h : Blk w g 28 p.cells) : w.rangeAt g 12 p.ann := fun j v hv => by
  rw [h.cell, ← hv, show p.ann = p.cells.drop 12 from rfl, List.getElem?_drop]
theorem ann_put (p : Ptp) (w : World) : Blk ((w.alloc (.cells #[.int .i64 0, .int .i64 0, .int .i64 0, .int .i64 0, .int .i64 0, .int .i64 0, .int .u64 0, .int .i64 0, .int .i64 0] 26)).setCells w.heap.size 0 p.ann) w.heap.size 26 p.ann ∧ Below w.heap.size w ((w.alloc (.cells #[.int .i64 0, .int .i64 0, .int .i64 0, .int .i64 0, .int .i64 0, .int .i64 0, .int .u64 0, .int .i64 0, .int .i64 0] 26)).setCells w.heap.size 0 p.ann) :=
  ⟨blk_setCells p.ann [] [.int .i64 0, .int .i64 0, .int .i64 0, .int .i64 0, .int .i64 0, .int .i64 0, .int .u64 0, .int .i64 0, .int .i64 0] _ (Blk.new w _ _) rfl, below_setCells (Nat.le_refl _) p.ann 0 _ ((Below.refl w.heap.size w).alloc (Nat.le_refl _) _)⟩
theorem ann_one (p : Ptp) : (p.ann.toArray : Array Value).all (·.oneCell') = true := all_oneCell_toArray (by unfold Ptp.ann; repeat (first | exact List.forall_mem_nil _ | refine List.forall_mem_cons.2 ⟨rfl, ?_⟩))
theorem ann_neq1 (p : Ptp) (w : World) : (Go.binOp .neq 26 (.agg p.ann.toArray) (.agg #[.int .i64 0, .int .i64 0, .int .i64 0, .int .i64 0, .int .i64 0, .int .i64 0, .int .u64 0, .int .i64 0, .int .i64 0])).run Try.prog w = .ok (.bool (!annZero p)) w := ann_neq0 p.utc p.p1 p.cls p.acc p.var p.p2 p.gm p.steps p.src w

set_option maxHeartbeats 2000000 in
theorem rchk0 (p : Ptp) (w : World) (h0 : sizeOfKind p.kind = 0) :
    Calls Try.prog 10 #[p.val] w fun e w' => e = .returned (.int .i64 8) ∧ Below w.heap.size w w' := by
  have hP : p.val = .agg p.cells.toArray := rfl
  have hN := Blk.new w 28 p.cells
  have hW := (Below.refl w.heap.size w).alloc (Nat.le_refl _) (.cells p.cells.toArray 28)
  have hP1 := ann_put p (w.alloc (.cells p.cells.toArray 28))
  have HP := hide (And.intro (hN.below' hP1.2) (And.intro hP1.1 (below_step hW hP1.2 hW.size)))
  have hra := ann_range p hN
  have hth : ((w.alloc (.cells p.cells.toArray 28)).alloc (.cells #[.int .i64 0, .int .i64 0, .int .i64 0, .int .i64 0, .int .i64 0, .int .i64 0, .int .u64 0, .int .i64 0, .int .i64 0] 26)).there (w.heap.size + 1) 0 p.ann.toArray.size := by
    have := there_blk (n := 9) (Blk.new (w.alloc (.cells p.cells.toArray 28)) 26 [.int .i64 0, .int .i64 0, .int .i64 0, .int .i64 0, .int .i64 0, .int .i64 0, .int .u64 0, .int .i64 0, .int .i64 0]) rfl
    rwa [World.size_alloc] at this
  rw [World.size_alloc] at HP
  have one0 := ann_one p
  have hi0 : (Try.prog.info? 26).map (·.size) = some p.ann.length := info9
  have hi1 : (Try.prog.info? 26).map (·.size) = some p.ann.toArray.size := info9
  have x0 : p.cells[0]? = some (.int .i64 p.kind) := rfl
  have x1 : p.cells[1]? = some (.int .i64 p.dom) := rfl
  have x2 : p.cells[2]? = some (.int .i64 p.flags) := rfl
  have x3 : p.cells[3]? = some (.int .i64 p.corr) := rfl
  have x4 : p.cells[4]? = some (.int .u64 p.clock) := rfl
  have x5 : p.cells[5]? = some (.int .i64 p.port) := rfl
  have x6 : p.cells[6]? = some (.int .i64 p.seq) := rfl
  have x7 : p.cells[7]? = some (.int .i64 p.logi) := rfl
  have x8 : p.cells[8]? = some (.int .i64 p.sec) := rfl
  have x9 : p.cells[9]? = some (.int .i64 p.nano) := rfl
  have x10 : p.cells[10]? = some (.int .u64 p.rclock) := rfl
  have x11 : p.cells[11]? = some (.int .i64 p.rport) := rfl
  have x12 : p.ann[0]? = some (.int .i64 p.utc) := rfl
  have x13 : p.ann[1]? = some (.int .i64 p.p1) := rfl
  have x14 : p.ann[2]? = some (.int .i64 p.cls) := rfl
  have x15 : p.ann[3]? = some (.int .i64 p.acc) := rfl
  have x16 : p.ann[4]? = some (.int .i64 p.var) := rfl
  have x17 : p.ann[5]? = some (.int .i64 p.p2) := rfl
  have x18 : p.ann[6]? = some (.int .u64 p.gm) := rfl
  have x19 : p.ann[7]? = some (.int .i64 p.steps) := rfl
  have x20 : p.ann[8]? = some (.int .i64 p.src) := rfl
  have Hz := hide (fun w => ann_neq1 p w)
  rw [hP]
  clear hP hP1 hW
  generalize p.cells = cp at *
  generalize p.ann = ca at *
  go_enter Try.func10, Try.ntmps10
  go_wp2_with (first
    | (refine wpList_load_mid rfl 26 _ rfl _ 12 rfl _ _ hra Try.underlying26 rfl hi0 ?_)
    | (refine wpList_store_mid rfl 26 _ _ rfl (w.heap.size + 1) 0 ca.toArray rfl rfl hth hi1 one0 ?_; refine wpList_gen (fun W => Blk W w.heap.size 28 cp ∧ Blk W (w.heap.size + 1) 26 ca ∧ Below w.heap.size w W) HP.out ?_; rintro W1 ⟨hN1, hA1, hW1⟩; clear hN HP hra hth one0 hi1; have c0 := (hN1.cell 0).trans x0)
    | (go_at_call 12; refine (refSize_any _ _).mono ?_; rintro e w2 ⟨rfl, rfl⟩; rw [h0])
    | (go_at_call 22; refine (refIn_any _ _ _ _).mono ?_; rintro e w2 ⟨rfl, rfl⟩)
    | (go_at_call 24; refine (refReq_any _ _).mono ?_; rintro e w2 ⟨rfl, rfl⟩)
    | (refine wpList_load_g 26 _ rfl (by kernel_rfl) _ 0 rfl _ _ (range21 hA1) Try.underlying26 rfl hi0 ?_))
  go_ret
  exact ⟨rfl, hW1⟩

set_option maxHeartbeats 2000000 in
theorem rchk1 (p : Ptp) (w : World) (h0 : (sizeOfKind p.kind == 0) = false) (e0 : inB p.dom 0 255 = false) :
    Calls Try.prog 10 #[p.val] w fun e w' => e = .returned (.int .i64 3) ∧ Below w.heap.size w w' := by
  have hP : p.val = .agg p.cells.toArray := rfl
  have hN := Blk.new w 28 p.cells
  have hW := (Below.refl w.heap.size w).alloc (Nat.le_refl _) (.cells p.cells.toArray 28)
  have hP1 := ann_put p (w.alloc (.cells p.cells.toArray 28))
  have HP := hide (And.intro (hN.below' hP1.2) (And.intro hP1.1 (below_step hW hP1.2 hW.size)))
  have hra := ann_range p hN
  have hth : ((w.alloc (.cells p.cells.toArray 28)).alloc (.cells #[.int .i64 0, .int .i64 0, .int .i64 0, .int .i64 0, .int .i64 0, .int .i64 0, .int .u64 0, .int .i64 0, .int .i64 0] 26)).there (w.heap.size + 1) 0 p.ann.toArray.size := by
    have := there_blk (n := 9) (Blk.new (w.alloc (.cells p.cells.toArray 28)) 26 [.int .i64 0, .int .i64 0, .int .i64 0, .int .i64 0, .int .i64 0, .int .i64 0, .int .u64 0, .int .i64 0, .int .i64 0]) rfl
    rwa [World.size_alloc] at this
  rw [World.size_alloc] at HP
  have one0 := ann_one p
  have hi0 : (Try.prog.info? 26).map (·.size) = some p.ann.length := info9
  have hi1 : (Try.prog.info? 26).map (·.size) = some p.ann.toArray.size := info9
  have x0 : p.cells[0]? = some (.int .i64 p.kind) := rfl
  have x1 : p.cells[1]? = some (.int .i64 p.dom) := rfl
  have x2 : p.cells[2]? = some (.int .i64 p.flags) := rfl
  have x3 : p.cells[3]? = some (.int .i64 p.corr) := rfl
  have x4 : p.cells[4]? = some (.int .u64 p.clock) := rfl
  have x5 : p.cells[5]? = some (.int .i64 p.port) := rfl
  have x6 : p.cells[6]? = some (.int .i64 p.seq) := rfl
  have x7 : p.cells[7]? = some (.int .i64 p.logi) := rfl
  have x8 : p.cells[8]? = some (.int .i64 p.sec) := rfl
  have x9 : p.cells[9]? = some (.int .i64 p.nano) := rfl
  have x10 : p.cells[10]? = some (.int .u64 p.rclock) := rfl
  have x11 : p.cells[11]? = some (.int .i64 p.rport) := rfl
  have x12 : p.ann[0]? = some (.int .i64 p.utc) := rfl
  have x13 : p.ann[1]? = some (.int .i64 p.p1) := rfl
  have x14 : p.ann[2]? = some (.int .i64 p.cls) := rfl
  have x15 : p.ann[3]? = some (.int .i64 p.acc) := rfl
  have x16 : p.ann[4]? = some (.int .i64 p.var) := rfl
  have x17 : p.ann[5]? = some (.int .i64 p.p2) := rfl
  have x18 : p.ann[6]? = some (.int .u64 p.gm) := rfl
  have x19 : p.ann[7]? = some (.int .i64 p.steps) := rfl
  have x20 : p.ann[8]? = some (.int .i64 p.src) := rfl
  have Hz := hide (fun w => ann_neq1 p w)
  rw [hP]
  clear hP hP1 hW
  generalize p.cells = cp at *
  generalize p.ann = ca at *
  go_enter Try.func10, Try.ntmps10
  go_wp2_with (first
    | (refine wpList_load_mid rfl 26 _ rfl _ 12 rfl _ _ hra Try.underlying26 rfl hi0 ?_)
    | (refine wpList_store_mid rfl 26 _ _ rfl (w.heap.size + 1) 0 ca.toArray rfl rfl hth hi1 one0 ?_; refine wpList_gen (fun W => Blk W w.heap.size 28 cp ∧ Blk W (w.heap.size + 1) 26 ca ∧ Below w.heap.size w W) HP.out ?_; rintro W1 ⟨hN1, hA1, hW1⟩; clear hN HP hra hth one0 hi1; have c0 := (hN1.cell 0).trans x0; have c1 := (hN1.cell 1).trans x1; have c2 := (hN1.cell 2).trans x2; have c5 := (hN1.cell 5).trans x5; have c6 := (hN1.cell 6).trans x6; have c7 := (hN1.cell 7).trans x7)
    | (go_at_call 12; refine (refSize_any _ _).mono ?_; rintro e w2 ⟨rfl, rfl⟩)
    | (go_at_call 22; refine (refIn_any _ _ _ _).mono ?_; rintro e w2 ⟨rfl, rfl⟩)
    | (go_at_call 24; refine (refReq_any _ _).mono ?_; rintro e w2 ⟨rfl, rfl⟩)
    | (refine wpList_load_g 26 _ rfl (by kernel_rfl) _ 0 rfl _ _ (range21 hA1) Try.underlying26 rfl hi0 ?_))
  go_ret
  exact ⟨rfl, hW1⟩

set_option maxHeartbeats 2000000 in
theorem rchk2 (p : Ptp) (w : World) (h0 : (sizeOfKind p.kind == 0) = false) (e0 : inB p.dom 0 255 = true) (e1 : inB p.flags 0 65535 = false) :
    Calls Try.prog 10 #[p.val] w fun e w' => e = .returned (.int .i64 3) ∧ Below w.heap.size w w' := by
  have hP : p.val = .agg p.cells.toArray := rfl
  have hN := Blk.new w 28 p.cells
  have hW := (Below.refl w.heap.size w).alloc (Nat.le_refl _) (.cells p.cells.toArray 28)
  have hP1 := ann_put p (w.alloc (.cells p.cells.toArray 28))
  have HP := hide (And.intro (hN.below' hP1.2) (And.intro hP1.1 (below_step hW hP1.2 hW.size)))
  have hra := ann_range p hN
  have hth : ((w.alloc (.cells p.cells.toArray 28)).alloc (.cells #[.int .i64 0, .int .i64 0, .int .i64 0, .int .i64 0, .int .i64 0, .int .i64 0, .int .u64 0, .int .i64 0, .int .i64 0] 26)).there (w.heap.size + 1) 0 p.ann.toArray.size := by
    have := there_blk (n := 9) (Blk.new (w.alloc (.cells p.cells.toArray 28)) 26 [.int .i64 0, .int .i64 0, .int .i64 0, .int .i64 0, .int .i64 0, .int .i64 0, .int .u64 0, .int .i64 0, .int .i64 0]) rfl
    rwa [World.size_alloc] at this
  rw [World.size_alloc] at HP
  have one0 := ann_one p
  have hi0 : (Try.prog.info? 26).map (·.size) = some p.ann.length := info9
  have hi1 : (Try.prog.info? 26).map (·.size) = some p.ann.toArray.size := info9
  have x0 : p.cells[0]? = some (.int .i64 p.kind) := rfl
  have x1 : p.cells[1]? = some (.int .i64 p.dom) := rfl
  have x2 : p.cells[2]? = some (.int .i64 p.flags) := rfl
  have x3 : p.cells[3]? = some (.int .i64 p.corr) := rfl
  have x4 : p.cells[4]? = some (.int .u64 p.clock) := rfl
  have x5 : p.cells[5]? = some (.int .i64 p.port) := rfl
  have x6 : p.cells[6]? = some (.int .i64 p.seq) := rfl
  have x7 : p.cells[7]? = some (.int .i64 p.logi) := rfl
  have x8 : p.cells[8]? = some (.int .i64 p.sec) := rfl
  have x9 : p.cells[9]? = some (.int .i64 p.nano) := rfl
  have x10 : p.cells[10]? = some (.int .u64 p.rclock) := rfl
  have x11 : p.cells[11]? = some (.int .i64 p.rport) := rfl
  have x12 : p.ann[0]? = some (.int .i64 p.utc) := rfl
  have x13 : p.ann[1]? = some (.int .i64 p.p1) := rfl
  have x14 : p.ann[2]? = some (.int .i64 p.cls) := rfl
  have x15 : p.ann[3]? = some (.int .i64 p.acc) := rfl
  have x16 : p.ann[4]? = some (.int .i64 p.var) := rfl
  have x17 : p.ann[5]? = some (.int .i64 p.p2) := rfl
  have x18 : p.ann[6]? = some (.int .u64 p.gm) := rfl
  have x19 : p.ann[7]? = some (.int .i64 p.steps) := rfl
  have x20 : p.ann[8]? = some (.int .i64 p.src) := rfl
  have Hz := hide (fun w => ann_neq1 p w)
  rw [hP]
  clear hP hP1 hW
  generalize p.cells = cp at *
  generalize p.ann = ca at *
  go_enter Try.func10, Try.ntmps10
  go_wp2_with (first
    | (refine wpList_load_mid rfl 26 _ rfl _ 12 rfl _ _ hra Try.underlying26 rfl hi0 ?_)
    | (refine wpList_store_mid rfl 26 _ _ rfl (w.heap.size + 1) 0 ca.toArray rfl rfl hth hi1 one0 ?_; refine wpList_gen (fun W => Blk W w.heap.size 28 cp ∧ Blk W (w.heap.size + 1) 26 ca ∧ Below w.heap.size w W) HP.out ?_; rintro W1 ⟨hN1, hA1, hW1⟩; clear hN HP hra hth one0 hi1; have c0 := (hN1.cell 0).trans x0; have c1 := (hN1.cell 1).trans x1; have c2 := (hN1.cell 2).trans x2; have c5 := (hN1.cell 5).trans x5; have c6 := (hN1.cell 6).trans x6; have c7 := (hN1.cell 7).trans x7)
    | (go_at_call 12; refine (refSize_any _ _).mono ?_; rintro e w2 ⟨rfl, rfl⟩)
    | (go_at_call 22; refine (refIn_any _ _ _ _).mono ?_; rintro e w2 ⟨rfl, rfl⟩)
    | (go_at_call 24; refine (refReq_any _ _).mono ?_; rintro e w2 ⟨rfl, rfl⟩)
    | (refine wpList_load_g 26 _ rfl (by kernel_rfl) _ 0 rfl _ _ (range21 hA1) Try.underlying26 rfl hi0 ?_))
  go_ret
  exact ⟨rfl, hW1⟩

set_option maxHeartbeats 2000000 in
theorem rchk3 (p : Ptp) (w : World) (h0 : (sizeOfKind p.kind == 0) = false) (e0 : inB p.dom 0 255 = true) (e1 : inB p.flags 0 65535 = true) (e2 : inB p.port 0 65535 = false) :
    Calls Try.prog 10 #[p.val] w fun e w' => e = .returned (.int .i64 3) ∧ Below w.heap.size w w' := by
  have hP : p.val = .agg p.cells.toArray := rfl
  have hN := Blk.new w 28 p.cells
  have hW := (Below.refl w.heap.size w).alloc (Nat.le_refl _) (.cells p.cells.toArray 28)
  have hP1 := ann_put p (w.alloc (.cells p.cells.toArray 28))
  have HP := hide (And.intro (hN.below' hP1.2) (And.intro hP1.1 (below_step hW hP1.2 hW.size)))
  have hra := ann_range p hN
  have hth : ((w.alloc (.cells p.cells.toArray 28)).alloc (.cells #[.int .i64 0, .int .i64 0, .int .i64 0, .int .i64 0, .int .i64 0, .int .i64 0, .int .u64 0, .int .i64 0, .int .i64 0] 26)).there (w.heap.size + 1) 0 p.ann.toArray.size := by
    have := there_blk (n := 9) (Blk.new (w.alloc (.cells p.cells.toArray 28)) 26 [.int .i64 0, .int .i64 0, .int .i64 0, .int .i64 0, .int .i64 0, .int .i64 0, .int .u64 0, .int .i64 0, .int .i64 0]) rfl
    rwa [World.size_alloc] at this
  rw [World.size_alloc] at HP
  have one0 := ann_one p
  have hi0 : (Try.prog.info? 26).map (·.size) = some p.ann.length := info9
  have hi1 : (Try.prog.info? 26).map (·.size) = some p.ann.toArray.size := info9
  have x0 : p.cells[0]? = some (.int .i64 p.kind) := rfl
  have x1 : p.cells[1]? = some (.int .i64 p.dom) := rfl
  have x2 : p.cells[2]? = some (.int .i64 p.flags) := rfl
  have x3 : p.cells[3]? = some (.int .i64 p.corr) := rfl
  have x4 : p.cells[4]? = some (.int .u64 p.clock) := rfl
  have x5 : p.cells[5]? = some (.int .i64 p.port) := rfl
  have x6 : p.cells[6]? = some (.int .i64 p.seq) := rfl
  have x7 : p.cells[7]? = some (.int .i64 p.logi) := rfl
  have x8 : p.cells[8]? = some (.int .i64 p.sec) := rfl
  have x9 : p.cells[9]? = some (.int .i64 p.nano) := rfl
  have x10 : p.cells[10]? = some (.int .u64 p.rclock) := rfl
  have x11 : p.cells[11]? = some (.int .i64 p.rport) := rfl
  have x12 : p.ann[0]? = some (.int .i64 p.utc) := rfl
  have x13 : p.ann[1]? = some (.int .i64 p.p1) := rfl
  have x14 : p.ann[2]? = some (.int .i64 p.cls) := rfl
  have x15 : p.ann[3]? = some (.int .i64 p.acc) := rfl
  have x16 : p.ann[4]? = some (.int .i64 p.var) := rfl
  have x17 : p.ann[5]? = some (.int .i64 p.p2) := rfl
  have x18 : p.ann[6]? = some (.int .u64 p.gm) := rfl
  have x19 : p.ann[7]? = some (.int .i64 p.steps) := rfl
  have x20 : p.ann[8]? = some (.int .i64 p.src) := rfl
  have Hz := hide (fun w => ann_neq1 p w)
  rw [hP]
  clear hP hP1 hW
  generalize p.cells = cp at *
  generalize p.ann = ca at *
  go_enter Try.func10, Try.ntmps10
  go_wp2_with (first
    | (refine wpList_load_mid rfl 26 _ rfl _ 12 rfl _ _ hra Try.underlying26 rfl hi0 ?_)
    | (refine wpList_store_mid rfl 26 _ _ rfl (w.heap.size + 1) 0 ca.toArray rfl rfl hth hi1 one0 ?_; refine wpList_gen (fun W => Blk W w.heap.size 28 cp ∧ Blk W (w.heap.size + 1) 26 ca ∧ Below w.heap.size w W) HP.out ?_; rintro W1 ⟨hN1, hA1, hW1⟩; clear hN HP hra hth one0 hi1; have c0 := (hN1.cell 0).trans x0; have c1 := (hN1.cell 1).trans x1; have c2 := (hN1.cell 2).trans x2; have c5 := (hN1.cell 5).trans x5; have c6 := (hN1.cell 6).trans x6; have c7 := (hN1.cell 7).trans x7)
    | (go_at_call 12; refine (refSize_any _ _).mono ?_; rintro e w2 ⟨rfl, rfl⟩)
    | (go_at_call 22; refine (refIn_any _ _ _ _).mono ?_; rintro e w2 ⟨rfl, rfl⟩)
    | (go_at_call 24; refine (refReq_any _ _).mono ?_; rintro e w2 ⟨rfl, rfl⟩)
    | (refine wpList_load_g 26 _ rfl (by kernel_rfl) _ 0 rfl _ _ (range21 hA1) Try.underlying26 rfl hi0 ?_))
  go_ret
  exact ⟨rfl, hW1⟩

set_option maxHeartbeats 2000000 in
theorem rchk4 (p : Ptp) (w : World) (h0 : (sizeOfKind p.kind == 0) = false) (e0 : inB p.dom 0 255 = true) (e1 : inB p.flags 0 65535 = true) (e2 : inB p.port 0 65535 = true) (e3 : inB p.seq 0 65535 = false) :
    Calls Try.prog 10 #[p.val] w fun e w' => e = .returned (.int .i64 3) ∧ Below w.heap.size w w' := by
  have hP : p.val = .agg p.cells.toArray := rfl
  have hN := Blk.new w 28 p.cells
  have hW := (Below.refl w.heap.size w).alloc (Nat.le_refl _) (.cells p.cells.toArray 28)
  have hP1 := ann_put p (w.alloc (.cells p.cells.toArray 28))
  have HP := hide (And.intro (hN.below' hP1.2) (And.intro hP1.1 (below_step hW hP1.2 hW.size)))
  have hra := ann_range p hN
  have hth : ((w.alloc (.cells p.cells.toArray 28)).alloc (.cells #[.int .i64 0, .int .i64 0, .int .i64 0, .int .i64 0, .int .i64 0, .int .i64 0, .int .u64 0, .int .i64 0, .int .i64 0] 26)).there (w.heap.size + 1) 0 p.ann.toArray.size := by
    have := there_blk (n := 9) (Blk.new (w.alloc (.cells p.cells.toArray 28)) 26 [.int .i64 0, .int .i64 0, .int .i64 0, .int .i64 0, .int .i64 0, .int .i64 0, .int .u64 0, .int .i64 0, .int .i64 0]) rfl
    rwa [World.size_alloc] at this
  rw [World.size_alloc] at HP
  have one0 := ann_one p
  have hi0 : (Try.prog.info? 26).map (·.size) = some p.ann.length := info9
  have hi1 : (Try.prog.info? 26).map (·.size) = some p.ann.toArray.size := info9
  have x0 : p.cells[0]? = some (.int .i64 p.kind) := rfl
  have x1 : p.cells[1]? = some (.int .i64 p.dom) := rfl
  have x2 : p.cells[2]? = some (.int .i64 p.flags) := rfl
  have x3 : p.cells[3]? = some (.int .i64 p.corr) := rfl
  have x4 : p.cells[4]? = some (.int .u64 p.clock) := rfl
  have x5 : p.cells[5]? = some (.int .i64 p.port) := rfl
  have x6 : p.cells[6]? = some (.int .i64 p.seq) := rfl
  have x7 : p.cells[7]? = some (.int .i64 p.logi) := rfl
  have x8 : p.cells[8]? = some (.int .i64 p.sec) := rfl
  have x9 : p.cells[9]? = some (.int .i64 p.nano) := rfl
  have x10 : p.cells[10]? = some (.int .u64 p.rclock) := rfl
  have x11 : p.cells[11]? = some (.int .i64 p.rport) := rfl
  have x12 : p.ann[0]? = some (.int .i64 p.utc) := rfl
  have x13 : p.ann[1]? = some (.int .i64 p.p1) := rfl
  have x14 : p.ann[2]? = some (.int .i64 p.cls) := rfl
  have x15 : p.ann[3]? = some (.int .i64 p.acc) := rfl
  have x16 : p.ann[4]? = some (.int .i64 p.var) := rfl
  have x17 : p.ann[5]? = some (.int .i64 p.p2) := rfl
  have x18 : p.ann[6]? = some (.int .u64 p.gm) := rfl
  have x19 : p.ann[7]? = some (.int .i64 p.steps) := rfl
  have x20 : p.ann[8]? = some (.int .i64 p.src) := rfl
  have Hz := hide (fun w => ann_neq1 p w)
  rw [hP]
  clear hP hP1 hW
  generalize p.cells = cp at *
  generalize p.ann = ca at *
  go_enter Try.func10, Try.ntmps10
  go_wp2_with (first
    | (refine wpList_load_mid rfl 26 _ rfl _ 12 rfl _ _ hra Try.underlying26 rfl hi0 ?_)
    | (refine wpList_store_mid rfl 26 _ _ rfl (w.heap.size + 1) 0 ca.toArray rfl rfl hth hi1 one0 ?_; refine wpList_gen (fun W => Blk W w.heap.size 28 cp ∧ Blk W (w.heap.size + 1) 26 ca ∧ Below w.heap.size w W) HP.out ?_; rintro W1 ⟨hN1, hA1, hW1⟩; clear hN HP hra hth one0 hi1; have c0 := (hN1.cell 0).trans x0; have c1 := (hN1.cell 1).trans x1; have c2 := (hN1.cell 2).trans x2; have c5 := (hN1.cell 5).trans x5; have c6 := (hN1.cell 6).trans x6; have c7 := (hN1.cell 7).trans x7)
    | (go_at_call 12; refine (refSize_any _ _).mono ?_; rintro e w2 ⟨rfl, rfl⟩)
    | (go_at_call 22; refine (refIn_any _ _ _ _).mono ?_; rintro e w2 ⟨rfl, rfl⟩)
    | (go_at_call 24; refine (refReq_any _ _).mono ?_; rintro e w2 ⟨rfl, rfl⟩)
    | (refine wpList_load_g 26 _ rfl (by kernel_rfl) _ 0 rfl _ _ (range21 hA1) Try.underlying26 rfl hi0 ?_))
  go_ret
  exact ⟨rfl, hW1⟩

set_option maxHeartbeats 2000000 in
theorem rchk5 (p : Ptp) (w : World) (h0 : (sizeOfKind p.kind == 0) = false) (e0 : inB p.dom 0 255 = true) (e1 : inB p.flags 0 65535 = true) (e2 : inB p.port 0 65535 = true) (e3 : inB p.seq 0 65535 = true) (e4 : inB p.logi (-128) 127 = false) :
    Calls Try.prog 10 #[p.val] w fun e w' => e = .returned (.int .i64 3) ∧ Below w.heap.size w w' := by
  have hP : p.val = .agg p.cells.toArray := rfl
  have hN := Blk.new w 28 p.cells
  have hW := (Below.refl w.heap.size w).alloc (Nat.le_refl _) (.cells p.cells.toArray 28)
  have hP1 := ann_put p (w.alloc (.cells p.cells.toArray 28))
  have HP := hide (And.intro (hN.below' hP1.2) (And.intro hP1.1 (below_step hW hP1.2 hW.size)))
  have hra := ann_range p hN
  have hth : ((w.alloc (.cells p.cells.toArray 28)).alloc (.cells #[.int .i64 0, .int .i64 0, .int .i64 0, .int .i64 0, .int .i64 0, .int .i64 0, .int .u64 0, .int .i64 0, .int .i64 0] 26)).there (w.heap.size + 1) 0 p.ann.toArray.size := by
    have := there_blk (n := 9) (Blk.new (w.alloc (.cells p.cells.toArray 28)) 26 [.int .i64 0, .int .i64 0, .int .i64 0, .int .i64 0, .int .i64 0, .int .i64 0, .int .u64 0, .int .i64 0, .int .i64 0]) rfl
    rwa [World.size_alloc] at this
  rw [World.size_alloc] at HP
  have one0 := ann_one p
  have hi0 : (Try.prog.info? 26).map (·.size) = some p.ann.length := info9
  have hi1 : (Try.prog.info? 26).map (·.size) = some p.ann.toArray.size := info9
  have x0 : p.cells[0]? = some (.int .i64 p.kind) := rfl
  have x1 : p.cells[1]? = some (.int .i64 p.dom) := rfl
  have x2 : p.cells[2]? = some (.int .i64 p.flags) := rfl
  have x3 : p.cells[3]? = some (.int .i64 p.corr) := rfl
  have x4 : p.cells[4]? = some (.int .u64 p.clock) := rfl
  have x5 : p.cells[5]? = some (.int .i64 p.port) := rfl
  have x6 : p.cells[6]? = some (.int .i64 p.seq) := rfl
  have x7 : p.cells[7]? = some (.int .i64 p.logi) := rfl
  have x8 : p.cells[8]? = some (.int .i64 p.sec) := rfl
  have x9 : p.cells[9]? = some (.int .i64 p.nano) := rfl
  have x10 : p.cells[10]? = some (.int .u64 p.rclock) := rfl
  have x11 : p.cells[11]? = some (.int .i64 p.rport) := rfl
  have x12 : p.ann[0]? = some (.int .i64 p.utc) := rfl
  have x13 : p.ann[1]? = some (.int .i64 p.p1) := rfl
  have x14 : p.ann[2]? = some (.int .i64 p.cls) := rfl
  have x15 : p.ann[3]? = some (.int .i64 p.acc) := rfl
  have x16 : p.ann[4]? = some (.int .i64 p.var) := rfl
  have x17 : p.ann[5]? = some (.int .i64 p.p2) := rfl
  have x18 : p.ann[6]? = some (.int .u64 p.gm) := rfl
  have x19 : p.ann[7]? = some (.int .i64 p.steps) := rfl
  have x20 : p.ann[8]? = some (.int .i64 p.src) := rfl
  have Hz := hide (fun w => ann_neq1 p w)
  rw [hP]
  clear hP hP1 hW
  generalize p.cells = cp at *
  generalize p.ann = ca at *
  go_enter Try.func10, Try.ntmps10
  go_wp2_with (first
    | (refine wpList_load_mid rfl 26 _ rfl _ 12 rfl _ _ hra Try.underlying26 rfl hi0 ?_)
    | (refine wpList_store_mid rfl 26 _ _ rfl (w.heap.size + 1) 0 ca.toArray rfl rfl hth hi1 one0 ?_; refine wpList_gen (fun W => Blk W w.heap.size 28 cp ∧ Blk W (w.heap.size + 1) 26 ca ∧ Below w.heap.size w W) HP.out ?_; rintro W1 ⟨hN1, hA1, hW1⟩; clear hN HP hra hth one0 hi1; have c0 := (hN1.cell 0).trans x0; have c1 := (hN1.cell 1).trans x1; have c2 := (hN1.cell 2).trans x2; have c5 := (hN1.cell 5).trans x5; have c6 := (hN1.cell 6).trans x6; have c7 := (hN1.cell 7).trans x7)
    | (go_at_call 12; refine (refSize_any _ _).mono ?_; rintro e w2 ⟨rfl, rfl⟩)
    | (go_at_call 22; refine (refIn_any _ _ _ _).mono ?_; rintro e w2 ⟨rfl, rfl⟩)
    | (go_at_call 24; refine (refReq_any _ _).mono ?_; rintro e w2 ⟨rfl, rfl⟩)
    | (refine wpList_load_g 26 _ rfl (by kernel_rfl) _ 0 rfl _ _ (range21 hA1) Try.underlying26 rfl hi0 ?_))
  go_ret
  exact ⟨rfl, hW1⟩

set_option maxHeartbeats 2000000 in
theorem rchk6 (p : Ptp) (w : World) (h0 : (sizeOfKind p.kind == 0) = false) (e0 : inB p.dom 0 255 = true) (e1 : inB p.flags 0 65535 = true) (e2 : inB p.port 0 65535 = true) (e3 : inB p.seq 0 65535 = true) (e4 : inB p.logi (-128) 127 = true) (e5 : stampOk p.sec p.nano = false) (hse : stampErr p.sec p.nano = 3) :
    Calls Try.prog 10 #[p.val] w fun e w' => e = .returned (.int .i64 3) ∧ Below w.heap.size w w' := by
  have hP : p.val = .agg p.cells.toArray := rfl
  have hN := Blk.new w 28 p.cells
  have hW := (Below.refl w.heap.size w).alloc (Nat.le_refl _) (.cells p.cells.toArray 28)
  have hP1 := ann_put p (w.alloc (.cells p.cells.toArray 28))
  have HP := hide (And.intro (hN.below' hP1.2) (And.intro hP1.1 (below_step hW hP1.2 hW.size)))
  have hra := ann_range p hN
  have hth : ((w.alloc (.cells p.cells.toArray 28)).alloc (.cells #[.int .i64 0, .int .i64 0, .int .i64 0, .int .i64 0, .int .i64 0, .int .i64 0, .int .u64 0, .int .i64 0, .int .i64 0] 26)).there (w.heap.size + 1) 0 p.ann.toArray.size := by
    have := there_blk (n := 9) (Blk.new (w.alloc (.cells p.cells.toArray 28)) 26 [.int .i64 0, .int .i64 0, .int .i64 0, .int .i64 0, .int .i64 0, .int .i64 0, .int .u64 0, .int .i64 0, .int .i64 0]) rfl
    rwa [World.size_alloc] at this
  rw [World.size_alloc] at HP
  have one0 := ann_one p
  have hi0 : (Try.prog.info? 26).map (·.size) = some p.ann.length := info9
  have hi1 : (Try.prog.info? 26).map (·.size) = some p.ann.toArray.size := info9
  have x0 : p.cells[0]? = some (.int .i64 p.kind) := rfl
  have x1 : p.cells[1]? = some (.int .i64 p.dom) := rfl
  have x2 : p.cells[2]? = some (.int .i64 p.flags) := rfl
  have x3 : p.cells[3]? = some (.int .i64 p.corr) := rfl
  have x4 : p.cells[4]? = some (.int .u64 p.clock) := rfl
  have x5 : p.cells[5]? = some (.int .i64 p.port) := rfl
  have x6 : p.cells[6]? = some (.int .i64 p.seq) := rfl
  have x7 : p.cells[7]? = some (.int .i64 p.logi) := rfl
  have x8 : p.cells[8]? = some (.int .i64 p.sec) := rfl
  have x9 : p.cells[9]? = some (.int .i64 p.nano) := rfl
  have x10 : p.cells[10]? = some (.int .u64 p.rclock) := rfl
  have x11 : p.cells[11]? = some (.int .i64 p.rport) := rfl
  have x12 : p.ann[0]? = some (.int .i64 p.utc) := rfl
  have x13 : p.ann[1]? = some (.int .i64 p.p1) := rfl
  have x14 : p.ann[2]? = some (.int .i64 p.cls) := rfl
  have x15 : p.ann[3]? = some (.int .i64 p.acc) := rfl
  have x16 : p.ann[4]? = some (.int .i64 p.var) := rfl
  have x17 : p.ann[5]? = some (.int .i64 p.p2) := rfl
  have x18 : p.ann[6]? = some (.int .u64 p.gm) := rfl
  have x19 : p.ann[7]? = some (.int .i64 p.steps) := rfl
  have x20 : p.ann[8]? = some (.int .i64 p.src) := rfl
  have Hz := hide (fun w => ann_neq1 p w)
  rw [hP]
  clear hP hP1 hW
  generalize p.cells = cp at *
  generalize p.ann = ca at *
  go_enter Try.func10, Try.ntmps10
  go_wp2_with (first
    | (refine wpList_load_mid rfl 26 _ rfl _ 12 rfl _ _ hra Try.underlying26 rfl hi0 ?_)
    | (refine wpList_store_mid rfl 26 _ _ rfl (w.heap.size + 1) 0 ca.toArray rfl rfl hth hi1 one0 ?_; refine wpList_gen (fun W => Blk W w.heap.size 28 cp ∧ Blk W (w.heap.size + 1) 26 ca ∧ Below w.heap.size w W) HP.out ?_; rintro W1 ⟨hN1, hA1, hW1⟩; clear hN HP hra hth one0 hi1; have c0 := (hN1.cell 0).trans x0; have c1 := (hN1.cell 1).trans x1; have c2 := (hN1.cell 2).trans x2; have c5 := (hN1.cell 5).trans x5; have c6 := (hN1.cell 6).trans x6; have c7 := (hN1.cell 7).trans x7; have c8 := (hN1.cell 8).trans x8; have c9 := (hN1.cell 9).trans x9)
    | (go_at_call 12; refine (refSize_any _ _).mono ?_; rintro e w2 ⟨rfl, rfl⟩)
    | (go_at_call 22; refine (refIn_any _ _ _ _).mono ?_; rintro e w2 ⟨rfl, rfl⟩)
    | (go_at_call 24; refine (refReq_any _ _).mono ?_; rintro e w2 ⟨rfl, rfl⟩)
    | (refine wpList_load_g 26 _ rfl (by kernel_rfl) _ 0 rfl _ _ (range21 hA2) Try.underlying26 rfl hi0 ?_)
    | (go_at_call 23; refine (refStamp_any _ _ _).mono ?_; rintro e w3 ⟨rfl, hB3⟩; rw [hse]; clear c0 c1 c2 c5 c6 c7 c8 c9; have hN2 := hN1.below' hB3; have hA2 := hA1.below' hB3; have hW2 := below_step hW1 hB3 hW1.size; have c0 := (hN2.cell 0).trans x0; clear hB3 hN1 hA1 hW1))
  go_ret
  exact ⟨rfl, hW2⟩

set_option maxHeartbeats 2000000 in
theorem rchk7 (p : Ptp) (w : World) (h0 : (sizeOfKind p.kind == 0) = false) (e0 : inB p.dom 0 255 = true) (e1 : inB p.flags 0 65535 = true) (e2 : inB p.port 0 65535 = true) (e3 : inB p.seq 0 65535 = true) (e4 : inB p.logi (-128) 127 = true) (e5 : stampOk p.sec p.nano = true) (e6 : inB p.rport 0 65535 = false) (hse : stampErr p.sec p.nano = 0) :
    Calls Try.prog 10 #[p.val] w fun e w' => e = .returned (.int .i64 3) ∧ Below w.heap.size w w' := by
  have hP : p.val = .agg p.cells.toArray := rfl
  have hN := Blk.new w 28 p.cells
  have hW := (Below.refl w.heap.size w).alloc (Nat.le_refl _) (.cells p.cells.toArray 28)
  have hP1 := ann_put p (w.alloc (.cells p.cells.toArray 28))
  have HP := hide (And.intro (hN.below' hP1.2) (And.intro hP1.1 (below_step hW hP1.2 hW.size)))
  have hra := ann_range p hN
  have hth : ((w.alloc (.cells p.cells.toArray 28)).alloc (.cells #[.int .i64 0, .int .i64 0, .int .i64 0, .int .i64 0, .int .i64 0, .int .i64 0, .int .u64 0, .int .i64 0, .int .i64 0] 26)).there (w.heap.size + 1) 0 p.ann.toArray.size := by
    have := there_blk (n := 9) (Blk.new (w.alloc (.cells p.cells.toArray 28)) 26 [.int .i64 0, .int .i64 0, .int .i64 0, .int .i64 0, .int .i64 0, .int .i64 0, .int .u64 0, .int .i64 0, .int .i64 0]) rfl
    rwa [World.size_alloc] at this
  rw [World.size_alloc] at HP
  have one0 := ann_one p
  have hi0 : (Try.prog.info? 26).map (·.size) = some p.ann.length := info9
  have hi1 : (Try.prog.info? 26).map (·.size) = some p.ann.toArray.size := info9
  have x0 : p.cells[0]? = some (.int .i64 p.kind) := rfl
  have x1 : p.cells[1]? = some (.int .i64 p.dom) := rfl
  have x2 : p.cells[2]? = some (.int .i64 p.flags) := rfl
  have x3 : p.cells[3]? = some (.int .i64 p.corr) := rfl
  have x4 : p.cells[4]? = some (.int .u64 p.clock) := rfl
  have x5 : p.cells[5]? = some (.int .i64 p.port) := rfl
  have x6 : p.cells[6]? = some (.int .i64 p.seq) := rfl
  have x7 : p.cells[7]? = some (.int .i64 p.logi) := rfl
  have x8 : p.cells[8]? = some (.int .i64 p.sec) := rfl
  have x9 : p.cells[9]? = some (.int .i64 p.nano) := rfl
  have x10 : p.cells[10]? = some (.int .u64 p.rclock) := rfl
  have x11 : p.cells[11]? = some (.int .i64 p.rport) := rfl
  have x12 : p.ann[0]? = some (.int .i64 p.utc) := rfl
  have x13 : p.ann[1]? = some (.int .i64 p.p1) := rfl
  have x14 : p.ann[2]? = some (.int .i64 p.cls) := rfl
  have x15 : p.ann[3]? = some (.int .i64 p.acc) := rfl
  have x16 : p.ann[4]? = some (.int .i64 p.var) := rfl
  have x17 : p.ann[5]? = some (.int .i64 p.p2) := rfl
  have x18 : p.ann[6]? = some (.int .u64 p.gm) := rfl
  have x19 : p.ann[7]? = some (.int .i64 p.steps) := rfl
  have x20 : p.ann[8]? = some (.int .i64 p.src) := rfl
  have Hz := hide (fun w => ann_neq1 p w)
  rw [hP]
  clear hP hP1 hW
  generalize p.cells = cp at *
  generalize p.ann = ca at *
  go_enter Try.func10, Try.ntmps10
  go_wp2_with (first
    | (refine wpList_load_mid rfl 26 _ rfl _ 12 rfl _ _ hra Try.underlying26 rfl hi0 ?_)
    | (refine wpList_store_mid rfl 26 _ _ rfl (w.heap.size + 1) 0 ca.toArray rfl rfl hth hi1 one0 ?_; refine wpList_gen (fun W => Blk W w.heap.size 28 cp ∧ Blk W (w.heap.size + 1) 26 ca ∧ Below w.heap.size w W) HP.out ?_; rintro W1 ⟨hN1, hA1, hW1⟩; clear hN HP hra hth one0 hi1; have c0 := (hN1.cell 0).trans x0; have c1 := (hN1.cell 1).trans x1; have c2 := (hN1.cell 2).trans x2; have c5 := (hN1.cell 5).trans x5; have c6 := (hN1.cell 6).trans x6; have c7 := (hN1.cell 7).trans x7; have c8 := (hN1.cell 8).trans x8; have c9 := (hN1.cell 9).trans x9)
    | (go_at_call 12; refine (refSize_any _ _).mono ?_; rintro e w2 ⟨rfl, rfl⟩)
    | (go_at_call 22; refine (refIn_any _ _ _ _).mono ?_; rintro e w2 ⟨rfl, rfl⟩)
    | (go_at_call 24; refine (refReq_any _ _).mono ?_; rintro e w2 ⟨rfl, rfl⟩)
    | (refine wpList_load_g 26 _ rfl (by kernel_rfl) _ 0 rfl _ _ (range21 hA2) Try.underlying26 rfl hi0 ?_)
    | (go_at_call 23; refine (refStamp_any _ _ _).mono ?_; rintro e w3 ⟨rfl, hB3⟩; rw [hse]; clear c0 c1 c2 c5 c6 c7 c8 c9; have hN2 := hN1.below' hB3; have hA2 := hA1.below' hB3; have hW2 := below_step hW1 hB3 hW1.size; have c0 := (hN2.cell 0).trans x0; have c11 := (hN2.cell 11).trans x11; clear hB3 hN1 hA1 hW1))
  go_ret
  exact ⟨rfl, hW2⟩

set_option maxHeartbeats 2000000 in
theorem rchk8 (p : Ptp) (w : World) (h0 : (sizeOfKind p.kind == 0) = false) (e0 : inB p.dom 0 255 = true) (e1 : inB p.flags 0 65535 = true) (e2 : inB p.port 0 65535 = true) (e3 : inB p.seq 0 65535 = true) (e4 : inB p.logi (-128) 127 = true) (e5 : stampOk p.sec p.nano = true) (e6 : inB p.rport 0 65535 = true) (e7 : inB p.utc (-32768) 32767 = false) (hse : stampErr p.sec p.nano = 0) :
    Calls Try.prog 10 #[p.val] w fun e w' => e = .returned (.int .i64 3) ∧ Below w.heap.size w w' := by
  have hP : p.val = .agg p.cells.toArray := rfl
  have hN := Blk.new w 28 p.cells
  have hW := (Below.refl w.heap.size w).alloc (Nat.le_refl _) (.cells p.cells.toArray 28)
  have hP1 := ann_put p (w.alloc (.cells p.cells.toArray 28))
  have HP := hide (And.intro (hN.below' hP1.2) (And.intro hP1.1 (below_step hW hP1.2 hW.size)))
  have hra := ann_range p hN
  have hth : ((w.alloc (.cells p.cells.toArray 28)).alloc (.cells #[.int .i64 0, .int .i64 0, .int .i64 0, .int .i64 0, .int .i64 0, .int .i64 0, .int .u64 0, .int .i64 0, .int .i64 0] 26)).there (w.heap.size + 1) 0 p.ann.toArray.size := by
    have := there_blk (n := 9) (Blk.new (w.alloc (.cells p.cells.toArray 28)) 26 [.int .i64 0, .int .i64 0, .int .i64 0, .int .i64 0, .int .i64 0, .int .i64 0, .int .u64 0, .int .i64 0, .int .i64 0]) rfl
    rwa [World.size_alloc] at this
  rw [World.size_alloc] at HP
  have one0 := ann_one p
  have hi0 : (Try.prog.info? 26).map (·.size) = some p.ann.length := info9
  have hi1 : (Try.prog.info? 26).map (·.size) = some p.ann.toArray.size := info9
  have x0 : p.cells[0]? = some (.int .i64 p.kind) := rfl
  have x1 : p.cells[1]? = some (.int .i64 p.dom) := rfl
  have x2 : p.cells[2]? = some (.int .i64 p.flags) := rfl
  have x3 : p.cells[3]? = some (.int .i64 p.corr) := rfl
  have x4 : p.cells[4]? = some (.int .u64 p.clock) := rfl
  have x5 : p.cells[5]? = some (.int .i64 p.port) := rfl
  have x6 : p.cells[6]? = some (.int .i64 p.seq) := rfl
  have x7 : p.cells[7]? = some (.int .i64 p.logi) := rfl
  have x8 : p.cells[8]? = some (.int .i64 p.sec) := rfl
  have x9 : p.cells[9]? = some (.int .i64 p.nano) := rfl
  have x10 : p.cells[10]? = some (.int .u64 p.rclock) := rfl
  have x11 : p.cells[11]? = some (.int .i64 p.rport) := rfl
  have x12 : p.ann[0]? = some (.int .i64 p.utc) := rfl
  have x13 : p.ann[1]? = some (.int .i64 p.p1) := rfl
  have x14 : p.ann[2]? = some (.int .i64 p.cls) := rfl
  have x15 : p.ann[3]? = some (.int .i64 p.acc) := rfl
  have x16 : p.ann[4]? = some (.int .i64 p.var) := rfl
  have x17 : p.ann[5]? = some (.int .i64 p.p2) := rfl
  have x18 : p.ann[6]? = some (.int .u64 p.gm) := rfl
  have x19 : p.ann[7]? = some (.int .i64 p.steps) := rfl
  have x20 : p.ann[8]? = some (.int .i64 p.src) := rfl
  have Hz := hide (fun w => ann_neq1 p w)
  rw [hP]
  clear hP hP1 hW
  generalize p.cells = cp at *
  generalize p.ann = ca at *
  go_enter Try.func10, Try.ntmps10
  go_wp2_with (first
    | (refine wpList_load_mid rfl 26 _ rfl _ 12 rfl _ _ hra Try.underlying26 rfl hi0 ?_)
    | (refine wpList_store_mid rfl 26 _ _ rfl (w.heap.size + 1) 0 ca.toArray rfl rfl hth hi1 one0 ?_; refine wpList_gen (fun W => Blk W w.heap.size 28 cp ∧ Blk W (w.heap.size + 1) 26 ca ∧ Below w.heap.size w W) HP.out ?_; rintro W1 ⟨hN1, hA1, hW1⟩; clear hN HP hra hth one0 hi1; have c0 := (hN1.cell 0).trans x0; have c1 := (hN1.cell 1).trans x1; have c2 := (hN1.cell 2).trans x2; have c5 := (hN1.cell 5).trans x5; have c6 := (hN1.cell 6).trans x6; have c7 := (hN1.cell 7).trans x7; have c8 := (hN1.cell 8).trans x8; have c9 := (hN1.cell 9).trans x9)
    | (go_at_call 12; refine (refSize_any _ _).mono ?_; rintro e w2 ⟨rfl, rfl⟩)
    | (go_at_call 22; refine (refIn_any _ _ _ _).mono ?_; rintro e w2 ⟨rfl, rfl⟩)
    | (go_at_call 24; refine (refReq_any _ _).mono ?_; rintro e w2 ⟨rfl, rfl⟩)
    | (refine wpList_load_g 26 _ rfl (by kernel_rfl) _ 0 rfl _ _ (range21 hA2) Try.underlying26 rfl hi0 ?_)
    | (go_at_call 23; refine (refStamp_any _ _ _).mono ?_; rintro e w3 ⟨rfl, hB3⟩; rw [hse]; clear c0 c1 c2 c5 c6 c7 c8 c9; have hN2 := hN1.below' hB3; have hA2 := hA1.below' hB3; have hW2 := below_step hW1 hB3 hW1.size; have c0 := (hN2.cell 0).trans x0; have c11 := (hN2.cell 11).trans x11; have c12 := (hA2.cell 0).trans x12; have c13 := (hA2.cell 1).trans x13; have c14 := (hA2.cell 2).trans x14; have c15 := (hA2.cell 3).trans x15; have c16 := (hA2.cell 4).trans x16; have c17 := (hA2.cell 5).trans x17; have c19 := (hA2.cell 7).trans x19; have c20 := (hA2.cell 8).trans x20; clear hB3 hN1 hA1 hW1))
  go_ret
  exact ⟨rfl, hW2⟩

set_option maxHeartbeats 2000000 in
theorem rchk9 (p : Ptp) (w : World) (h0 : (sizeOfKind p.kind == 0) = false) (e0 : inB p.dom 0 255 = true) (e1 : inB p.flags 0 65535 = true) (e2 : inB p.port 0 65535 = true) (e3 : inB p.seq 0 65535 = true) (e4 : inB p.logi (-128) 127 = true) (e5 : stampOk p.sec p.nano = true) (e6 : inB p.rport 0 65535 = true) (e7 : inB p.utc (-32768) 32767 = true) (e8 : inB p.p1 0 255 = false) (hse : stampErr p.sec p.nano = 0) :
    Calls Try.prog 10 #[p.val] w fun e w' => e = .returned (.int .i64 3) ∧ Below w.heap.size w w' := by
  have hP : p.val = .agg p.cells.toArray := rfl
  have hN := Blk.new w 28 p.cells
  have hW := (Below.refl w.heap.size w).alloc (Nat.le_refl _) (.cells p.cells.toArray 28)
  have hP1 := ann_put p (w.alloc (.cells p.cells.toArray 28))
  have HP := hide (And.intro (hN.below' hP1.2) (And.intro hP1.1 (below_step hW hP1.2 hW.size)))
  have hra := ann_range p hN
  have hth : ((w.alloc (.cells p.cells.toArray 28)).alloc (.cells #[.int .i64 0, .int .i64 0, .int .i64 0, .int .i64 0, .int .i64 0, .int .i64 0, .int .u64 0, .int .i64 0, .int .i64 0] 26)).there (w.heap.size + 1) 0 p.ann.toArray.size := by
    have := there_blk (n := 9) (Blk.new (w.alloc (.cells p.cells.toArray 28)) 26 [.int .i64 0, .int .i64 0, .int .i64 0, .int .i64 0, .int .i64 0, .int .i64 0, .int .u64 0, .int .i64 0, .int .i64 0]) rfl
    rwa [World.size_alloc] at this
  rw [World.size_alloc] at HP
  have one0 := ann_one p
  have hi0 : (Try.prog.info? 26).map (·.size) = some p.ann.length := info9
  have hi1 : (Try.prog.info? 26).map (·.size) = some p.ann.toArray.size := info9
  have x0 : p.cells[0]? = some (.int .i64 p.kind) := rfl
  have x1 : p.cells[1]? = some (.int .i64 p.dom) := rfl
  have x2 : p.cells[2]? = some (.int .i64 p.flags) := rfl
  have x3 : p.cells[3]? = some (.int .i64 p.corr) := rfl
  have x4 : p.cells[4]? = some (.int .u64 p.clock) := rfl
  have x5 : p.cells[5]? = some (.int .i64 p.port) := rfl
  have x6 : p.cells[6]? = some (.int .i64 p.seq) := rfl
  have x7 : p.cells[7]? = some (.int .i64 p.logi) := rfl
  have x8 : p.cells[8]? = some (.int .i64 p.sec) := rfl
  have x9 : p.cells[9]? = some (.int .i64 p.nano) := rfl
  have x10 : p.cells[10]? = some (.int .u64 p.rclock) := rfl
  have x11 : p.cells[11]? = some (.int .i64 p.rport) := rfl
  have x12 : p.ann[0]? = some (.int .i64 p.utc) := rfl
  have x13 : p.ann[1]? = some (.int .i64 p.p1) := rfl
  have x14 : p.ann[2]? = some (.int .i64 p.cls) := rfl
  have x15 : p.ann[3]? = some (.int .i64 p.acc) := rfl
  have x16 : p.ann[4]? = some (.int .i64 p.var) := rfl
  have x17 : p.ann[5]? = some (.int .i64 p.p2) := rfl
  have x18 : p.ann[6]? = some (.int .u64 p.gm) := rfl
  have x19 : p.ann[7]? = some (.int .i64 p.steps) := rfl
  have x20 : p.ann[8]? = some (.int .i64 p.src) := rfl
  have Hz := hide (fun w => ann_neq1 p w)
  rw [hP]
  clear hP hP1 hW
  generalize p.cells = cp at *
  generalize p.ann = ca at *
  go_enter Try.func10, Try.ntmps10
  go_wp2_with (first
    | (refine wpList_load_mid rfl 26 _ rfl _ 12 rfl _ _ hra Try.underlying26 rfl hi0 ?_)
    | (refine wpList_store_mid rfl 26 _ _ rfl (w.heap.size + 1) 0 ca.toArray rfl rfl hth hi1 one0 ?_; refine wpList_gen (fun W => Blk W w.heap.size 28 cp ∧ Blk W (w.heap.size + 1) 26 ca ∧ Below w.heap.size w W) HP.out ?_; rintro W1 ⟨hN1, hA1, hW1⟩; clear hN HP hra hth one0 hi1; have c0 := (hN1.cell 0).trans x0; have c1 := (hN1.cell 1).trans x1; have c2 := (hN1.cell 2).trans x2; have c5 := (hN1.cell 5).trans x5; have c6 := (hN1.cell 6).trans x6; have c7 := (hN1.cell 7).trans x7; have c8 := (hN1.cell 8).trans x8; have c9 := (hN1.cell 9).trans x9)
    | (go_at_call 12; refine (refSize_any _ _).mono ?_; rintro e w2 ⟨rfl, rfl⟩)
    | (go_at_call 22; refine (refIn_any _ _ _ _).mono ?_; rintro e w2 ⟨rfl, rfl⟩)
    | (go_at_call 24; refine (refReq_any _ _).mono ?_; rintro e w2 ⟨rfl, rfl⟩)
    | (refine wpList_load_g 26 _ rfl (by kernel_rfl) _ 0 rfl _ _ (range21 hA2) Try.underlying26 rfl hi0 ?_)
    | (go_at_call 23; refine (refStamp_any _ _ _).mono ?_; rintro e w3 ⟨rfl, hB3⟩; rw [hse]; clear c0 c1 c2 c5 c6 c7 c8 c9; have hN2 := hN1.below' hB3; have hA2 := hA1.below' hB3; have hW2 := below_step hW1 hB3 hW1.size; have c0 := (hN2.cell 0).trans x0; have c11 := (hN2.cell 11).trans x11; have c12 := (hA2.cell 0).trans x12; have c13 := (hA2.cell 1).trans x13; have c14 := (hA2.cell 2).trans x14; have c15 := (hA2.cell 3).trans x15; have c16 := (hA2.cell 4).trans x16; have c17 := (hA2.cell 5).trans x17; have c19 := (hA2.cell 7).trans x19; have c20 := (hA2.cell 8).trans x20; clear hB3 hN1 hA1 hW1))
  go_ret
  exact ⟨rfl, hW2⟩

set_option maxHeartbeats 2000000 in
theorem rchk10 (p : Ptp) (w : World) (h0 : (sizeOfKind p.kind == 0) = false) (e0 : inB p.dom 0 255 = true) (e1 : inB p.flags 0 65535 = true) (e2 : inB p.port 0 65535 = true) (e3 : inB p.seq 0 65535 = true) (e4 : inB p.logi (-128) 127 = true) (e5 : stampOk p.sec p.nano = true) (e6 : inB p.rport 0 65535 = true) (e7 : inB p.utc (-32768) 32767 = true) (e8 : inB p.p1 0 255 = true) (e9 : inB p.cls 0 255 = false) (hse : stampErr p.sec p.nano = 0) :
    Calls Try.prog 10 #[p.val] w fun e w' => e = .returned (.int .i64 3) ∧ Below w.heap.size w w' := by
  have hP : p.val = .agg p.cells.toArray := rfl
  have hN := Blk.new w 28 p.cells
  have hW := (Below.refl w.heap.size w).alloc (Nat.le_refl _) (.cells p.cells.toArray 28)
  have hP1 := ann_put p (w.alloc (.cells p.cells.toArray 28))
  have HP := hide (And.intro (hN.below' hP1.2) (And.intro hP1.1 (below_step hW hP1.2 hW.size)))
  have hra := ann_range p hN
  have hth : ((w.alloc (.cells p.cells.toArray 28)).alloc (.cells #[.int .i64 0, .int .i64 0, .int .i64 0, .int .i64 0, .int .i64 0, .int .i64 0, .int .u64 0, .int .i64 0, .int .i64 0] 26)).there (w.heap.size + 1) 0 p.ann.toArray.size := by
    have := there_blk (n := 9) (Blk.new (w.alloc (.cells p.cells.toArray 28)) 26 [.int .i64 0, .int .i64 0, .int .i64 0, .int .i64 0, .int .i64 0, .int .i64 0, .int .u64 0, .int .i64 0, .int .i64 0]) rfl
    rwa [World.size_alloc] at this
  rw [World.size_alloc] at HP
  have one0 := ann_one p
  have hi0 : (Try.prog.info? 26).map (·.size) = some p.ann.length := info9
  have hi1 : (Try.prog.info? 26).map (·.size) = some p.ann.toArray.size := info9
  have x0 : p.cells[0]? = some (.int .i64 p.kind) := rfl
  have x1 : p.cells[1]? = some (.int .i64 p.dom) := rfl
  have x2 : p.cells[2]? = some (.int .i64 p.flags) := rfl
  have x3 : p.cells[3]? = some (.int .i64 p.corr) := rfl
  have x4 : p.cells[4]? = some (.int .u64 p.clock) := rfl
  have x5 : p.cells[5]? = some (.int .i64 p.port) := rfl
  have x6 : p.cells[6]? = some (.int .i64 p.seq) := rfl
  have x7 : p.cells[7]? = some (.int .i64 p.logi) := rfl
  have x8 : p.cells[8]? = some (.int .i64 p.sec) := rfl
  have x9 : p.cells[9]? = some (.int .i64 p.nano) := rfl
  have x10 : p.cells[10]? = some (.int .u64 p.rclock) := rfl
  have x11 : p.cells[11]? = some (.int .i64 p.rport) := rfl
  have x12 : p.ann[0]? = some (.int .i64 p.utc) := rfl
  have x13 : p.ann[1]? = some (.int .i64 p.p1) := rfl
  have x14 : p.ann[2]? = some (.int .i64 p.cls) := rfl
  have x15 : p.ann[3]? = some (.int .i64 p.acc) := rfl
  have x16 : p.ann[4]? = some (.int .i64 p.var) := rfl
  have x17 : p.ann[5]? = some (.int .i64 p.p2) := rfl
  have x18 : p.ann[6]? = some (.int .u64 p.gm) := rfl
  have x19 : p.ann[7]? = some (.int .i64 p.steps) := rfl
  have x20 : p.ann[8]? = some (.int .i64 p.src) := rfl
  have Hz := hide (fun w => ann_neq1 p w)
  rw [hP]
  clear hP hP1 hW
  generalize p.cells = cp at *
  generalize p.ann = ca at *
  go_enter Try.func10, Try.ntmps10
  go_wp2_with (first
    | (refine wpList_load_mid rfl 26 _ rfl _ 12 rfl _ _ hra Try.underlying26 rfl hi0 ?_)
    | (refine wpList_store_mid rfl 26 _ _ rfl (w.heap.size + 1) 0 ca.toArray rfl rfl hth hi1 one0 ?_; refine wpList_gen (fun W => Blk W w.heap.size 28 cp ∧ Blk W (w.heap.size + 1) 26 ca ∧ Below w.heap.size w W) HP.out ?_; rintro W1 ⟨hN1, hA1, hW1⟩; clear hN HP hra hth one0 hi1; have c0 := (hN1.cell 0).trans x0; have c1 := (hN1.cell 1).trans x1; have c2 := (hN1.cell 2).trans x2; have c5 := (hN1.cell 5).trans x5; have c6 := (hN1.cell 6).trans x6; have c7 := (hN1.cell 7).trans x7; have c8 := (hN1.cell 8).trans x8; have c9 := (hN1.cell 9).trans x9)
    | (go_at_call 12; refine (refSize_any _ _).mono ?_; rintro e w2 ⟨rfl, rfl⟩)
    | (go_at_call 22; refine (refIn_any _ _ _ _).mono ?_; rintro e w2 ⟨rfl, rfl⟩)
    | (go_at_call 24; refine (refReq_any _ _).mono ?_; rintro e w2 ⟨rfl, rfl⟩)
    | (refine wpList_load_g 26 _ rfl (by kernel_rfl) _ 0 rfl _ _ (range21 hA2) Try.underlying26 rfl hi0 ?_)
    | (go_at_call 23; refine (refStamp_any _ _ _).mono ?_; rintro e w3 ⟨rfl, hB3⟩; rw [hse]; clear c0 c1 c2 c5 c6 c7 c8 c9; have hN2 := hN1.below' hB3; have hA2 := hA1.below' hB3; have hW2 := below_step hW1 hB3 hW1.size; have c0 := (hN2.cell 0).trans x0; have c11 := (hN2.cell 11).trans x11; have c12 := (hA2.cell 0).trans x12; have c13 := (hA2.cell 1).trans x13; have c14 := (hA2.cell 2).trans x14; have c15 := (hA2.cell 3).trans x15; have c16 := (hA2.cell 4).trans x16; have c17 := (hA2.cell 5).trans x17; have c19 := (hA2.cell 7).trans x19; have c20 := (hA2.cell 8).trans x20; clear hB3 hN1 hA1 hW1))
  go_ret
  exact ⟨rfl, hW2⟩

set_option maxHeartbeats 2000000 in
theorem rchk11 (p : Ptp) (w : World) (h0 : (sizeOfKind p.kind == 0) = false) (e0 : inB p.dom 0 255 = true) (e1 : inB p.flags 0 65535 = true) (e2 : inB p.port 0 65535 = true) (e3 : inB p.seq 0 65535 = true) (e4 : inB p.logi (-128) 127 = true) (e5 : stampOk p.sec p.nano = true) (e6 : inB p.rport 0 65535 = true) (e7 : inB p.utc (-32768) 32767 = true) (e8 : inB p.p1 0 255 = true) (e9 : inB p.cls 0 255 = true) (e10 : inB p.acc 0 255 = false) (hse : stampErr p.sec p.nano = 0) :
    Calls Try.prog 10 #[p.val] w fun e w' => e = .returned (.int .i64 3) ∧ Below w.heap.size w w' := by
  have hP : p.val = .agg p.cells.toArray := rfl
  have hN := Blk.new w 28 p.cells
  have hW := (Below.refl w.heap.size w).alloc (Nat.le_refl _) (.cells p.cells.toArray 28)
  have hP1 := ann_put p (w.alloc (.cells p.cells.toArray 28))
  have HP := hide (And.intro (hN.below' hP1.2) (And.intro hP1.1 (below_step hW hP1.2 hW.size)))
  have hra := ann_range p hN
  have hth : ((w.alloc (.cells p.cells.toArray 28)).alloc (.cells #[.int .i64 0, .int .i64 0, .int .i64 0, .int .i64 0, .int .i64 0, .int .i64 0, .int .u64 0, .int .i64 0, .int .i64 0] 26)).there (w.heap.size + 1) 0 p.ann.toArray.size := by
    have := there_blk (n := 9) (Blk.new (w.alloc (.cells p.cells.toArray 28)) 26 [.int .i64 0, .int .i64 0, .int .i64 0, .int .i64 0, .int .i64 0, .int .i64 0, .int .u64 0, .int .i64 0, .int .i64 0]) rfl
    rwa [World.size_alloc] at this
  rw [World.size_alloc] at HP
  have one0 := ann_one p
  have hi0 : (Try.prog.info? 26).map (·.size) = some p.ann.length := info9
  have hi1 : (Try.prog.info? 26).map (·.size) = some p.ann.toArray.size := info9
  have x0 : p.cells[0]? = some (.int .i64 p.kind) := rfl
  have x1 : p.cells[1]? = some (.int .i64 p.dom) := rfl
  have x2 : p.cells[2]? = some (.int .i64 p.flags) := rfl
  have x3 : p.cells[3]? = some (.int .i64 p.corr) := rfl
  have x4 : p.cells[4]? = some (.int .u64 p.clock) := rfl
  have x5 : p.cells[5]? = some (.int .i64 p.port) := rfl
  have x6 : p.cells[6]? = some (.int .i64 p.seq) := rfl
  have x7 : p.cells[7]? = some (.int .i64 p.logi) := rfl
  have x8 : p.cells[8]? = some (.int .i64 p.sec) := rfl
  have x9 : p.cells[9]? = some (.int .i64 p.nano) := rfl
  have x10 : p.cells[10]? = some (.int .u64 p.rclock) := rfl
  have x11 : p.cells[11]? = some (.int .i64 p.rport) := rfl
  have x12 : p.ann[0]? = some (.int .i64 p.utc) := rfl
  have x13 : p.ann[1]? = some (.int .i64 p.p1) := rfl
  have x14 : p.ann[2]? = some (.int .i64 p.cls) := rfl
  have x15 : p.ann[3]? = some (.int .i64 p.acc) := rfl
  have x16 : p.ann[4]? = some (.int .i64 p.var) := rfl
  have x17 : p.ann[5]? = some (.int .i64 p.p2) := rfl
  have x18 : p.ann[6]? = some (.int .u64 p.gm) := rfl
  have x19 : p.ann[7]? = some (.int .i64 p.steps) := rfl
  have x20 : p.ann[8]? = some (.int .i64 p.src) := rfl
  have Hz := hide (fun w => ann_neq1 p w)
  rw [hP]
  clear hP hP1 hW
  generalize p.cells = cp at *
  generalize p.ann = ca at *
  go_enter Try.func10, Try.ntmps10
  go_wp2_with (first
    | (refine wpList_load_mid rfl 26 _ rfl _ 12 rfl _ _ hra Try.underlying26 rfl hi0 ?_)
    | (refine wpList_store_mid rfl 26 _ _ rfl (w.heap.size + 1) 0 ca.toArray rfl rfl hth hi1 one0 ?_; refine wpList_gen (fun W => Blk W w.heap.size 28 cp ∧ Blk W (w.heap.size + 1) 26 ca ∧ Below w.heap.size w W) HP.out ?_; rintro W1 ⟨hN1, hA1, hW1⟩; clear hN HP hra hth one0 hi1; have c0 := (hN1.cell 0).trans x0; have c1 := (hN1.cell 1).trans x1; have c2 := (hN1.cell 2).trans x2; have c5 := (hN1.cell 5).trans x5; have c6 := (hN1.cell 6).trans x6; have c7 := (hN1.cell 7).trans x7; have c8 := (hN1.cell 8).trans x8; have c9 := (hN1.cell 9).trans x9)
    | (go_at_call 12; refine (refSize_any _ _).mono ?_; rintro e w2 ⟨rfl, rfl⟩)
    | (go_at_call 22; refine (refIn_any _ _ _ _).mono ?_; rintro e w2 ⟨rfl, rfl⟩)
    | (go_at_call 24; refine (refReq_any _ _).mono ?_; rintro e w2 ⟨rfl, rfl⟩)
    | (refine wpList_load_g 26 _ rfl (by kernel_rfl) _ 0 rfl _ _ (range21 hA2) Try.underlying26 rfl hi0 ?_)
    | (go_at_call 23; refine (refStamp_any _ _ _).mono ?_; rintro e w3 ⟨rfl, hB3⟩; rw [hse]; clear c0 c1 c2 c5 c6 c7 c8 c9; have hN2 := hN1.below' hB3; have hA2 := hA1.below' hB3; have hW2 := below_step hW1 hB3 hW1.size; have c0 := (hN2.cell 0).trans x0; have c11 := (hN2.cell 11).trans x11; have c12 := (hA2.cell 0).trans x12; have c13 := (hA2.cell 1).trans x13; have c14 := (hA2.cell 2).trans x14; have c15 := (hA2.cell 3).trans x15; have c16 := (hA2.cell 4).trans x16; have c17 := (hA2.cell 5).trans x17; have c19 := (hA2.cell 7).trans x19; have c20 := (hA2.cell 8).trans x20; clear hB3 hN1 hA1 hW1))
  go_ret
  exact ⟨rfl, hW2⟩

set_option maxHeartbeats 2000000 in
theorem rchk12 (p : Ptp) (w : World) (h0 : (sizeOfKind p.kind == 0) = false) (e0 : inB p.dom 0 255 = true) (e1 : inB p.flags 0 65535 = true) (e2 : inB p.port 0 65535 = true) (e3 : inB p.seq 0 65535 = true) (e4 : inB p.logi (-128) 127 = true) (e5 : stampOk p.sec p.nano = true) (e6 : inB p.rport 0 65535 = true) (e7 : inB p.utc (-32768) 32767 = true) (e8 : inB p.p1 0 255 = true) (e9 : inB p.cls 0 255 = true) (e10 : inB p.acc 0 255 = true) (e11 : inB p.var 0 65535 = false) (hse : stampErr p.sec p.nano = 0) :
    Calls Try.prog 10 #[p.val] w fun e w' => e = .returned (.int .i64 3) ∧ Below w.heap.size w w' := by
  have hP : p.val = .agg p.cells.toArray := rfl
  have hN := Blk.new w 28 p.cells
  have hW := (Below.refl w.heap.size w).alloc (Nat.le_refl _) (.cells p.cells.toArray 28)
  have hP1 := ann_put p (w.alloc (.cells p.cells.toArray 28))
  have HP := hide (And.intro (hN.below' hP1.2) (And.intro hP1.1 (below_step hW hP1.2 hW.size)))
  have hra := ann_range p hN
  have hth : ((w.alloc (.cells p.cells.toArray 28)).alloc (.cells #[.int .i64 0, .int .i64 0, .int .i64 0, .int .i64 0, .int .i64 0, .int .i64 0, .int .u64 0, .int .i64 0, .int .i64 0] 26)).there (w.heap.size + 1) 0 p.ann.toArray.size := by
    have := there_blk (n := 9) (Blk.new (w.alloc (.cells p.cells.toArray 28)) 26 [.int .i64 0, .int .i64 0, .int .i64 0, .int .i64 0, .int .i64 0, .int .i64 0, .int .u64 0, .int .i64 0, .int .i64 0]) rfl
    rwa [World.size_alloc] at this
  rw [World.size_alloc] at HP
  have one0 := ann_one p
  have hi0 : (Try.prog.info? 26).map (·.size) = some p.ann.length := info9
  have hi1 : (Try.prog.info? 26).map (·.size) = some p.ann.toArray.size := info9
  have x0 : p.cells[0]? = some (.int .i64 p.kind) := rfl
  have x1 : p.cells[1]? = some (.int .i64 p.dom) := rfl
  have x2 : p.cells[2]? = some (.int .i64 p.flags) := rfl
  have x3 : p.cells[3]? = some (.int .i64 p.corr) := rfl
  have x4 : p.cells[4]? = some (.int .u64 p.clock) := rfl
  have x5 : p.cells[5]? = some (.int .i64 p.port) := rfl
  have x6 : p.cells[6]? = some (.int .i64 p.seq) := rfl
  have x7 : p.cells[7]? = some (.int .i64 p.logi) := rfl
  have x8 : p.cells[8]? = some (.int .i64 p.sec) := rfl
  have x9 : p.cells[9]? = some (.int .i64 p.nano) := rfl
  have x10 : p.cells[10]? = some (.int .u64 p.rclock) := rfl
  have x11 : p.cells[11]? = some (.int .i64 p.rport) := rfl
  have x12 : p.ann[0]? = some (.int .i64 p.utc) := rfl
  have x13 : p.ann[1]? = some (.int .i64 p.p1) := rfl
  have x14 : p.ann[2]? = some (.int .i64 p.cls) := rfl
  have x15 : p.ann[3]? = some (.int .i64 p.acc) := rfl
  have x16 : p.ann[4]? = some (.int .i64 p.var) := rfl
  have x17 : p.ann[5]? = some (.int .i64 p.p2) := rfl
  have x18 : p.ann[6]? = some (.int .u64 p.gm) := rfl
  have x19 : p.ann[7]? = some (.int .i64 p.steps) := rfl
  have x20 : p.ann[8]? = some (.int .i64 p.src) := rfl
  have Hz := hide (fun w => ann_neq1 p w)
  rw [hP]
  clear hP hP1 hW
  generalize p.cells = cp at *
  generalize p.ann = ca at *
  go_enter Try.func10, Try.ntmps10
  go_wp2_with (first
    | (refine wpList_load_mid rfl 26 _ rfl _ 12 rfl _ _ hra Try.underlying26 rfl hi0 ?_)
    | (refine wpList_store_mid rfl 26 _ _ rfl (w.heap.size + 1) 0 ca.toArray rfl rfl hth hi1 one0 ?_; refine wpList_gen (fun W => Blk W w.heap.size 28 cp ∧ Blk W (w.heap.size + 1) 26 ca ∧ Below w.heap.size w W) HP.out ?_; rintro W1 ⟨hN1, hA1, hW1⟩; clear hN HP hra hth one0 hi1; have c0 := (hN1.cell 0).trans x0; have c1 := (hN1.cell 1).trans x1; have c2 := (hN1.cell 2).trans x2; have c5 := (hN1.cell 5).trans x5; have c6 := (hN1.cell 6).trans x6; have c7 := (hN1.cell 7).trans x7; have c8 := (hN1.cell 8).trans x8; have c9 := (hN1.cell 9).trans x9)
    | (go_at_call 12; refine (refSize_any _ _).mono ?_; rintro e w2 ⟨rfl, rfl⟩)
    | (go_at_call 22; refine (refIn_any _ _ _ _).mono ?_; rintro e w2 ⟨rfl, rfl⟩)
    | (go_at_call 24; refine (refReq_any _ _).mono ?_; rintro e w2 ⟨rfl, rfl⟩)
    | (refine wpList_load_g 26 _ rfl (by kernel_rfl) _ 0 rfl _ _ (range21 hA2) Try.underlying26 rfl hi0 ?_)
    | (go_at_call 23; refine (refStamp_any _ _ _).mono ?_; rintro e w3 ⟨rfl, hB3⟩; rw [hse]; clear c0 c1 c2 c5 c6 c7 c8 c9; have hN2 := hN1.below' hB3; have hA2 := hA1.below' hB3; have hW2 := below_step hW1 hB3 hW1.size; have c0 := (hN2.cell 0).trans x0; have c11 := (hN2.cell 11).trans x11; have c12 := (hA2.cell 0).trans x12; have c13 := (hA2.cell 1).trans x13; have c14 := (hA2.cell 2).trans x14; have c15 := (hA2.cell 3).trans x15; have c16 := (hA2.cell 4).trans x16; have c17 := (hA2.cell 5).trans x17; have c19 := (hA2.cell 7).trans x19; have c20 := (hA2.cell 8).trans x20; clear hB3 hN1 hA1 hW1))
  go_ret
  exact ⟨rfl, hW2⟩

set_option maxHeartbeats 2000000 in
theorem rchk13 (p : Ptp) (w : World) (h0 : (sizeOfKind p.kind == 0) = false) (e0 : inB p.dom 0 255 = true) (e1 : inB p.flags 0 65535 = true) (e2 : inB p.port 0 65535 = true) (e3 : inB p.seq 0 65535 = true) (e4 : inB p.logi (-128) 127 = true) (e5 : stampOk p.sec p.nano = true) (e6 : inB p.rport 0 65535 = true) (e7 : inB p.utc (-32768) 32767 = true) (e8 : inB p.p1 0 255 = true) (e9 : inB p.cls 0 255 = true) (e10 : inB p.acc 0 255 = true) (e11 : inB p.var 0 65535 = true) (e12 : inB p.p2 0 255 = false) (hse : stampErr p.sec p.nano = 0) :
    Calls Try.prog 10 #[p.val] w fun e w' => e = .returned (.int .i64 3) ∧ Below w.heap.size w w' := by
  have hP : p.val = .agg p.cells.toArray := rfl
  have hN := Blk.new w 28 p.cells
  have hW := (Below.refl w.heap.size w).alloc (Nat.le_refl _) (.cells p.cells.toArray 28)
  have hP1 := ann_put p (w.alloc (.cells p.cells.toArray 28))
  have HP := hide (And.intro (hN.below' hP1.2) (And.intro hP1.1 (below_step hW hP1.2 hW.size)))
  have hra := ann_range p hN
  have hth : ((w.alloc (.cells p.cells.toArray 28)).alloc (.cells #[.int .i64 0, .int .i64 0, .int .i64 0, .int .i64 0, .int .i64 0, .int .i64 0, .int .u64 0, .int .i64 0, .int .i64 0] 26)).there (w.heap.size + 1) 0 p.ann.toArray.size := by
    have := there_blk (n := 9) (Blk.new (w.alloc (.cells p.cells.toArray 28)) 26 [.int .i64 0, .int .i64 0, .int .i64 0, .int .i64 0, .int .i64 0, .int .i64 0, .int .u64 0, .int .i64 0, .int .i64 0]) rfl
    rwa [World.size_alloc] at this
  rw [World.size_alloc] at HP
  have one0 := ann_one p
  have hi0 : (Try.prog.info? 26).map (·.size) = some p.ann.length := info9
  have hi1 : (Try.prog.info? 26).map (·.size) = some p.ann.toArray.size := info9
  have x0 : p.cells[0]? = some (.int .i64 p.kind) := rfl
  have x1 : p.cells[1]? = some (.int .i64 p.dom) := rfl
  have x2 : p.cells[2]? = some (.int .i64 p.flags) := rfl
  have x3 : p.cells[3]? = some (.int .i64 p.corr) := rfl
  have x4 : p.cells[4]? = some (.int .u64 p.clock) := rfl
  have x5 : p.cells[5]? = some (.int .i64 p.port) := rfl
  have x6 : p.cells[6]? = some (.int .i64 p.seq) := rfl
  have x7 : p.cells[7]? = some (.int .i64 p.logi) := rfl
  have x8 : p.cells[8]? = some (.int .i64 p.sec) := rfl
  have x9 : p.cells[9]? = some (.int .i64 p.nano) := rfl
  have x10 : p.cells[10]? = some (.int .u64 p.rclock) := rfl
  have x11 : p.cells[11]? = some (.int .i64 p.rport) := rfl
  have x12 : p.ann[0]? = some (.int .i64 p.utc) := rfl
  have x13 : p.ann[1]? = some (.int .i64 p.p1) := rfl
  have x14 : p.ann[2]? = some (.int .i64 p.cls) := rfl
  have x15 : p.ann[3]? = some (.int .i64 p.acc) := rfl
  have x16 : p.ann[4]? = some (.int .i64 p.var) := rfl
  have x17 : p.ann[5]? = some (.int .i64 p.p2) := rfl
  have x18 : p.ann[6]? = some (.int .u64 p.gm) := rfl
  have x19 : p.ann[7]? = some (.int .i64 p.steps) := rfl
  have x20 : p.ann[8]? = some (.int .i64 p.src) := rfl
  have Hz := hide (fun w => ann_neq1 p w)
  rw [hP]
  clear hP hP1 hW
  generalize p.cells = cp at *
  generalize p.ann = ca at *
  go_enter Try.func10, Try.ntmps10
  go_wp2_with (first
    | (refine wpList_load_mid rfl 26 _ rfl _ 12 rfl _ _ hra Try.underlying26 rfl hi0 ?_)
    | (refine wpList_store_mid rfl 26 _ _ rfl (w.heap.size + 1) 0 ca.toArray rfl rfl hth hi1 one0 ?_; refine wpList_gen (fun W => Blk W w.heap.size 28 cp ∧ Blk W (w.heap.size + 1) 26 ca ∧ Below w.heap.size w W) HP.out ?_; rintro W1 ⟨hN1, hA1, hW1⟩; clear hN HP hra hth one0 hi1; have c0 := (hN1.cell 0).trans x0; have c1 := (hN1.cell 1).trans x1; have c2 := (hN1.cell 2).trans x2; have c5 := (hN1.cell 5).trans x5; have c6 := (hN1.cell 6).trans x6; have c7 := (hN1.cell 7).trans x7; have c8 := (hN1.cell 8).trans x8; have c9 := (hN1.cell 9).trans x9)
    | (go_at_call 12; refine (refSize_any _ _).mono ?_; rintro e w2 ⟨rfl, rfl⟩)
    | (go_at_call 22; refine (refIn_any _ _ _ _).mono ?_; rintro e w2 ⟨rfl, rfl⟩)
    | (go_at_call 24; refine (refReq_any _ _).mono ?_; rintro e w2 ⟨rfl, rfl⟩)
    | (refine wpList_load_g 26 _ rfl (by kernel_rfl) _ 0 rfl _ _ (range21 hA2) Try.underlying26 rfl hi0 ?_)
    | (go_at_call 23; refine (refStamp_any _ _ _).mono ?_; rintro e w3 ⟨rfl, hB3⟩; rw [hse]; clear c0 c1 c2 c5 c6 c7 c8 c9; have hN2 := hN1.below' hB3; have hA2 := hA1.below' hB3; have hW2 := below_step hW1 hB3 hW1.size; have c0 := (hN2.cell 0).trans x0; have c11 := (hN2.cell 11).trans x11; have c12 := (hA2.cell 0).trans x12; have c13 := (hA2.cell 1).trans x13; have c14 := (hA2.cell 2).trans x14; have c15 := (hA2.cell 3).trans x15; have c16 := (hA2.cell 4).trans x16; have c17 := (hA2.cell 5).trans x17; have c19 := (hA2.cell 7).trans x19; have c20 := (hA2.cell 8).trans x20; clear hB3 hN1 hA1 hW1))
  go_ret
  exact ⟨rfl, hW2⟩

set_option maxHeartbeats 2000000 in
theorem rchk14 (p : Ptp) (w : World) (h0 : (sizeOfKind p.kind == 0) = false) (e0 : inB p.dom 0 255 = true) (e1 : inB p.flags 0 65535 = true) (e2 : inB p.port 0 65535 = true) (e3 : inB p.seq 0 65535 = true) (e4 : inB p.logi (-128) 127 = true) (e5 : stampOk p.sec p.nano = true) (e6 : inB p.rport 0 65535 = true) (e7 : inB p.utc (-32768) 32767 = true) (e8 : inB p.p1 0 255 = true) (e9 : inB p.cls 0 255 = true) (e10 : inB p.acc 0 255 = true) (e11 : inB p.var 0 65535 = true) (e12 : inB p.p2 0 255 = true) (e13 : inB p.steps 0 65535 = false) (hse : stampErr p.sec p.nano = 0) :
    Calls Try.prog 10 #[p.val] w fun e w' => e = .returned (.int .i64 3) ∧ Below w.heap.size w w' := by
  have hP : p.val = .agg p.cells.toArray := rfl
  have hN := Blk.new w 28 p.cells
  have hW := (Below.refl w.heap.size w).alloc (Nat.le_refl _) (.cells p.cells.toArray 28)
  have hP1 := ann_put p (w.alloc (.cells p.cells.toArray 28))
  have HP := hide (And.intro (hN.below' hP1.2) (And.intro hP1.1 (below_step hW hP1.2 hW.size)))
  have hra := ann_range p hN
  have hth : ((w.alloc (.cells p.cells.toArray 28)).alloc (.cells #[.int .i64 0, .int .i64 0, .int .i64 0, .int .i64 0, .int .i64 0, .int .i64 0, .int .u64 0, .int .i64 0, .int .i64 0] 26)).there (w.heap.size + 1) 0 p.ann.toArray.size := by
    have := there_blk (n := 9) (Blk.new (w.alloc (.cells p.cells.toArray 28)) 26 [.int .i64 0, .int .i64 0, .int .i64 0, .int .i64 0, .int .i64 0, .int .i64 0, .int .u64 0, .int .i64 0, .int .i64 0]) rfl
    rwa [World.size_alloc] at this
  rw [World.size_alloc] at HP
  have one0 := ann_one p
  have hi0 : (Try.prog.info? 26).map (·.size) = some p.ann.length := info9
  have hi1 : (Try.prog.info? 26).map (·.size) = some p.ann.toArray.size := info9
  have x0 : p.cells[0]? = some (.int .i64 p.kind) := rfl
  have x1 : p.cells[1]? = some (.int .i64 p.dom) := rfl
  have x2 : p.cells[2]? = some (.int .i64 p.flags) := rfl
  have x3 : p.cells[3]? = some (.int .i64 p.corr) := rfl
  have x4 : p.cells[4]? = some (.int .u64 p.clock) := rfl
  have x5 : p.cells[5]? = some (.int .i64 p.port) := rfl
  have x6 : p.cells[6]? = some (.int .i64 p.seq) := rfl
  have x7 : p.cells[7]? = some (.int .i64 p.logi) := rfl
  have x8 : p.cells[8]? = some (.int .i64 p.sec) := rfl
  have x9 : p.cells[9]? = some (.int .i64 p.nano) := rfl
  have x10 : p.cells[10]? = some (.int .u64 p.rclock) := rfl
  have x11 : p.cells[11]? = some (.int .i64 p.rport) := rfl
  have x12 : p.ann[0]? = some (.int .i64 p.utc) := rfl
  have x13 : p.ann[1]? = some (.int .i64 p.p1) := rfl
  have x14 : p.ann[2]? = some (.int .i64 p.cls) := rfl
  have x15 : p.ann[3]? = some (.int .i64 p.acc) := rfl
  have x16 : p.ann[4]? = some (.int .i64 p.var) := rfl
  have x17 : p.ann[5]? = some (.int .i64 p.p2) := rfl
  have x18 : p.ann[6]? = some (.int .u64 p.gm) := rfl
  have x19 : p.ann[7]? = some (.int .i64 p.steps) := rfl
  have x20 : p.ann[8]? = some (.int .i64 p.src) := rfl
  have Hz := hide (fun w => ann_neq1 p w)
  rw [hP]
  clear hP hP1 hW
  generalize p.cells = cp at *
  generalize p.ann = ca at *
  go_enter Try.func10, Try.ntmps10
  go_wp2_with (first
    | (refine wpList_load_mid rfl 26 _ rfl _ 12 rfl _ _ hra Try.underlying26 rfl hi0 ?_)
    | (refine wpList_store_mid rfl 26 _ _ rfl (w.heap.size + 1) 0 ca.toArray rfl rfl hth hi1 one0 ?_; refine wpList_gen (fun W => Blk W w.heap.size 28 cp ∧ Blk W (w.heap.size + 1) 26 ca ∧ Below w.heap.size w W) HP.out ?_; rintro W1 ⟨hN1, hA1, hW1⟩; clear hN HP hra hth one0 hi1; have c0 := (hN1.cell 0).trans x0; have c1 := (hN1.cell 1).trans x1; have c2 := (hN1.cell 2).trans x2; have c5 := (hN1.cell 5).trans x5; have c6 := (hN1.cell 6).trans x6; have c7 := (hN1.cell 7).trans x7; have c8 := (hN1.cell 8).trans x8; have c9 := (hN1.cell 9).trans x9)
    | (go_at_call 12; refine (refSize_any _ _).mono ?_; rintro e w2 ⟨rfl, rfl⟩)
    | (go_at_call 22; refine (refIn_any _ _ _ _).mono ?_; rintro e w2 ⟨rfl, rfl⟩)
    | (go_at_call 24; refine (refReq_any _ _).mono ?_; rintro e w2 ⟨rfl, rfl⟩)
    | (refine wpList_load_g 26 _ rfl (by kernel_rfl) _ 0 rfl _ _ (range21 hA2) Try.underlying26 rfl hi0 ?_)
    | (go_at_call 23; refine (refStamp_any _ _ _).mono ?_; rintro e w3 ⟨rfl, hB3⟩; rw [hse]; clear c0 c1 c2 c5 c6 c7 c8 c9; have hN2 := hN1.below' hB3; have hA2 := hA1.below' hB3; have hW2 := below_step hW1 hB3 hW1.size; have c0 := (hN2.cell 0).trans x0; have c11 := (hN2.cell 11).trans x11; have c12 := (hA2.cell 0).trans x12; have c13 := (hA2.cell 1).trans x13; have c14 := (hA2.cell 2).trans x14; have c15 := (hA2.cell 3).trans x15; have c16 := (hA2.cell 4).trans x16; have c17 := (hA2.cell 5).trans x17; have c19 := (hA2.cell 7).trans x19; have c20 := (hA2.cell 8).trans x20; clear hB3 hN1 hA1 hW1))
  go_ret
  exact ⟨rfl, hW2⟩

set_option maxHeartbeats 2000000 in
theorem rchk15 (p : Ptp) (w : World) (h0 : (sizeOfKind p.kind == 0) = false) (e0 : inB p.dom 0 255 = true) (e1 : inB p.flags 0 65535 = true) (e2 : inB p.port 0 65535 = true) (e3 : inB p.seq 0 65535 = true) (e4 : inB p.logi (-128) 127 = true) (e5 : stampOk p.sec p.nano = true) (e6 : inB p.rport 0 65535 = true) (e7 : inB p.utc (-32768) 32767 = true) (e8 : inB p.p1 0 255 = true) (e9 : inB p.cls 0 255 = true) (e10 : inB p.acc 0 255 = true) (e11 : inB p.var 0 65535 = true) (e12 : inB p.p2 0 255 = true) (e13 : inB p.steps 0 65535 = true) (e14 : inB p.src 0 255 = false) (hse : stampErr p.sec p.nano = 0) :
    Calls Try.prog 10 #[p.val] w fun e w' => e = .returned (.int .i64 3) ∧ Below w.heap.size w w' := by
  have hP : p.val = .agg p.cells.toArray := rfl
  have hN := Blk.new w 28 p.cells
  have hW := (Below.refl w.heap.size w).alloc (Nat.le_refl _) (.cells p.cells.toArray 28)
  have hP1 := ann_put p (w.alloc (.cells p.cells.toArray 28))
  have HP := hide (And.intro (hN.below' hP1.2) (And.intro hP1.1 (below_step hW hP1.2 hW.size)))
  have hra := ann_range p hN
  have hth : ((w.alloc (.cells p.cells.toArray 28)).alloc (.cells #[.int .i64 0, .int .i64 0, .int .i64 0, .int .i64 0, .int .i64 0, .int .i64 0, .int .u64 0, .int .i64 0, .int .i64 0] 26)).there (w.heap.size + 1) 0 p.ann.toArray.size := by
    have := there_blk (n := 9) (Blk.new (w.alloc (.cells p.cells.toArray 28)) 26 [.int .i64 0, .int .i64 0, .int .i64 0, .int .i64 0, .int .i64 0, .int .i64 0, .int .u64 0, .int .i64 0, .int .i64 0]) rfl
    rwa [World.size_alloc] at this
  rw [World.size_alloc] at HP
  have one0 := ann_one p
  have hi0 : (Try.prog.info? 26).map (·.size) = some p.ann.length := info9
  have hi1 : (Try.prog.info? 26).map (·.size) = some p.ann.toArray.size := info9
  have x0 : p.cells[0]? = some (.int .i64 p.kind) := rfl
  have x1 : p.cells[1]? = some (.int .i64 p.dom) := rfl
  have x2 : p.cells[2]? = some (.int .i64 p.flags) := rfl
  have x3 : p.cells[3]? = some (.int .i64 p.corr) := rfl
  have x4 : p.cells[4]? = some (.int .u64 p.clock) := rfl
  have x5 : p.cells[5]? = some (.int .i64 p.port) := rfl
  have x6 : p.cells[6]? = some (.int .i64 p.seq) := rfl
  have x7 : p.cells[7]? = some (.int .i64 p.logi) := rfl
  have x8 : p.cells[8]? = some (.int .i64 p.sec) := rfl
  have x9 : p.cells[9]? = some (.int .i64 p.nano) := rfl
  have x10 : p.cells[10]? = some (.int .u64 p.rclock) := rfl
  have x11 : p.cells[11]? = some (.int .i64 p.rport) := rfl
  have x12 : p.ann[0]? = some (.int .i64 p.utc) := rfl
  have x13 : p.ann[1]? = some (.int .i64 p.p1) := rfl
  have x14 : p.ann[2]? = some (.int .i64 p.cls) := rfl
  have x15 : p.ann[3]? = some (.int .i64 p.acc) := rfl
  have x16 : p.ann[4]? = some (.int .i64 p.var) := rfl
  have x17 : p.ann[5]? = some (.int .i64 p.p2) := rfl
  have x18 : p.ann[6]? = some (.int .u64 p.gm) := rfl
  have x19 : p.ann[7]? = some (.int .i64 p.steps) := rfl
  have x20 : p.ann[8]? = some (.int .i64 p.src) := rfl
  have Hz := hide (fun w => ann_neq1 p w)
  rw [hP]
  clear hP hP1 hW
  generalize p.cells = cp at *
  generalize p.ann = ca at *
  go_enter Try.func10, Try.ntmps10
  go_wp2_with (first
    | (refine wpList_load_mid rfl 26 _ rfl _ 12 rfl _ _ hra Try.underlying26 rfl hi0 ?_)
    | (refine wpList_store_mid rfl 26 _ _ rfl (w.heap.size + 1) 0 ca.toArray rfl rfl hth hi1 one0 ?_; refine wpList_gen (fun W => Blk W w.heap.size 28 cp ∧ Blk W (w.heap.size + 1) 26 ca ∧ Below w.heap.size w W) HP.out ?_; rintro W1 ⟨hN1, hA1, hW1⟩; clear hN HP hra hth one0 hi1; have c0 := (hN1.cell 0).trans x0; have c1 := (hN1.cell 1).trans x1; have c2 := (hN1.cell 2).trans x2; have c5 := (hN1.cell 5).trans x5; have c6 := (hN1.cell 6).trans x6; have c7 := (hN1.cell 7).trans x7; have c8 := (hN1.cell 8).trans x8; have c9 := (hN1.cell 9).trans x9)
    | (go_at_call 12; refine (refSize_any _ _).mono ?_; rintro e w2 ⟨rfl, rfl⟩)
    | (go_at_call 22; refine (refIn_any _ _ _ _).mono ?_; rintro e w2 ⟨rfl, rfl⟩)
    | (go_at_call 24; refine (refReq_any _ _).mono ?_; rintro e w2 ⟨rfl, rfl⟩)
    | (refine wpList_load_g 26 _ rfl (by kernel_rfl) _ 0 rfl _ _ (range21 hA2) Try.underlying26 rfl hi0 ?_)
    | (go_at_call 23; refine (refStamp_any _ _ _).mono ?_; rintro e w3 ⟨rfl, hB3⟩; rw [hse]; clear c0 c1 c2 c5 c6 c7 c8 c9; have hN2 := hN1.below' hB3; have hA2 := hA1.below' hB3; have hW2 := below_step hW1 hB3 hW1.size; have c0 := (hN2.cell 0).trans x0; have c11 := (hN2.cell 11).trans x11; have c12 := (hA2.cell 0).trans x12; have c13 := (hA2.cell 1).trans x13; have c14 := (hA2.cell 2).trans x14; have c15 := (hA2.cell 3).trans x15; have c16 := (hA2.cell 4).trans x16; have c17 := (hA2.cell 5).trans x17; have c19 := (hA2.cell 7).trans x19; have c20 := (hA2.cell 8).trans x20; clear hB3 hN1 hA1 hW1))
  go_ret
  exact ⟨rfl, hW2⟩

set_option maxHeartbeats 2000000 in
theorem rchk16 (p : Ptp) (w : World) (h0 : (sizeOfKind p.kind == 0) = false) (e0 : inB p.dom 0 255 = true) (e1 : inB p.flags 0 65535 = true) (e2 : inB p.port 0 65535 = true) (e3 : inB p.seq 0 65535 = true) (e4 : inB p.logi (-128) 127 = true) (e5 : stampOk p.sec p.nano = true) (e6 : inB p.rport 0 65535 = true) (e7 : inB p.utc (-32768) 32767 = true) (e8 : inB p.p1 0 255 = true) (e9 : inB p.cls 0 255 = true) (e10 : inB p.acc 0 255 = true) (e11 : inB p.var 0 65535 = true) (e12 : inB p.p2 0 255 = true) (e13 : inB p.steps 0 65535 = true) (e14 : inB p.src 0 255 = true) (hse : stampErr p.sec p.nano = 0) (hq : isReq p.kind = false) (h10 : (p.rclock != 0) = true) :
    Calls Try.prog 10 #[p.val] w fun e w' => e = .returned (.int .i64 7) ∧ Below w.heap.size w w' := by
  have hP : p.val = .agg p.cells.toArray := rfl
  have hN := Blk.new w 28 p.cells
  have hW := (Below.refl w.heap.size w).alloc (Nat.le_refl _) (.cells p.cells.toArray 28)
  have hP1 := ann_put p (w.alloc (.cells p.cells.toArray 28))
  have HP := hide (And.intro (hN.below' hP1.2) (And.intro hP1.1 (below_step hW hP1.2 hW.size)))
  have hra := ann_range p hN
  have hth : ((w.alloc (.cells p.cells.toArray 28)).alloc (.cells #[.int .i64 0, .int .i64 0, .int .i64 0, .int .i64 0, .int .i64 0, .int .i64 0, .int .u64 0, .int .i64 0, .int .i64 0] 26)).there (w.heap.size + 1) 0 p.ann.toArray.size := by
    have := there_blk (n := 9) (Blk.new (w.alloc (.cells p.cells.toArray 28)) 26 [.int .i64 0, .int .i64 0, .int .i64 0, .int .i64 0, .int .i64 0, .int .i64 0, .int .u64 0, .int .i64 0, .int .i64 0]) rfl
    rwa [World.size_alloc] at this
  rw [World.size_alloc] at HP
  have one0 := ann_one p
  have hi0 : (Try.prog.info? 26).map (·.size) = some p.ann.length := info9
  have hi1 : (Try.prog.info? 26).map (·.size) = some p.ann.toArray.size := info9
  have x0 : p.cells[0]? = some (.int .i64 p.kind) := rfl
  have x1 : p.cells[1]? = some (.int .i64 p.dom) := rfl
  have x2 : p.cells[2]? = some (.int .i64 p.flags) := rfl
  have x3 : p.cells[3]? = some (.int .i64 p.corr) := rfl
  have x4 : p.cells[4]? = some (.int .u64 p.clock) := rfl
  have x5 : p.cells[5]? = some (.int .i64 p.port) := rfl
  have x6 : p.cells[6]? = some (.int .i64 p.seq) := rfl
  have x7 : p.cells[7]? = some (.int .i64 p.logi) := rfl
  have x8 : p.cells[8]? = some (.int .i64 p.sec) := rfl
  have x9 : p.cells[9]? = some (.int .i64 p.nano) := rfl
  have x10 : p.cells[10]? = some (.int .u64 p.rclock) := rfl
  have x11 : p.cells[11]? = some (.int .i64 p.rport) := rfl
  have x12 : p.ann[0]? = some (.int .i64 p.utc) := rfl
  have x13 : p.ann[1]? = some (.int .i64 p.p1) := rfl
  have x14 : p.ann[2]? = some (.int .i64 p.cls) := rfl
  have x15 : p.ann[3]? = some (.int .i64 p.acc) := rfl
  have x16 : p.ann[4]? = some (.int .i64 p.var) := rfl
  have x17 : p.ann[5]? = some (.int .i64 p.p2) := rfl
  have x18 : p.ann[6]? = some (.int .u64 p.gm) := rfl
  have x19 : p.ann[7]? = some (.int .i64 p.steps) := rfl
  have x20 : p.ann[8]? = some (.int .i64 p.src) := rfl
  have Hz := hide (fun w => ann_neq1 p w)
  rw [hP]
  clear hP hP1 hW
  generalize p.cells = cp at *
  generalize p.ann = ca at *
  go_enter Try.func10, Try.ntmps10
  go_wp2_with (first
    | (refine wpList_load_mid rfl 26 _ rfl _ 12 rfl _ _ hra Try.underlying26 rfl hi0 ?_)
    | (refine wpList_store_mid rfl 26 _ _ rfl (w.heap.size + 1) 0 ca.toArray rfl rfl hth hi1 one0 ?_; refine wpList_gen (fun W => Blk W w.heap.size 28 cp ∧ Blk W (w.heap.size + 1) 26 ca ∧ Below w.heap.size w W) HP.out ?_; rintro W1 ⟨hN1, hA1, hW1⟩; clear hN HP hra hth one0 hi1; have c0 := (hN1.cell 0).trans x0; have c1 := (hN1.cell 1).trans x1; have c2 := (hN1.cell 2).trans x2; have c5 := (hN1.cell 5).trans x5; have c6 := (hN1.cell 6).trans x6; have c7 := (hN1.cell 7).trans x7; have c8 := (hN1.cell 8).trans x8; have c9 := (hN1.cell 9).trans x9)
    | (go_at_call 12; refine (refSize_any _ _).mono ?_; rintro e w2 ⟨rfl, rfl⟩)
    | (go_at_call 22; refine (refIn_any _ _ _ _).mono ?_; rintro e w2 ⟨rfl, rfl⟩)
    | (go_at_call 24; refine (refReq_any _ _).mono ?_; rintro e w2 ⟨rfl, rfl⟩)
    | (refine wpList_load_g 26 _ rfl (by kernel_rfl) _ 0 rfl _ _ (range21 hA2) Try.underlying26 rfl hi0 ?_)
    | (go_at_call 23; refine (refStamp_any _ _ _).mono ?_; rintro e w3 ⟨rfl, hB3⟩; rw [hse]; clear c0 c1 c2 c5 c6 c7 c8 c9; have hN2 := hN1.below' hB3; have hA2 := hA1.below' hB3; have hW2 := below_step hW1 hB3 hW1.size; have c0 := (hN2.cell 0).trans x0; have c10 := (hN2.cell 10).trans x10; have c11 := (hN2.cell 11).trans x11; have c12 := (hA2.cell 0).trans x12; have c13 := (hA2.cell 1).trans x13; have c14 := (hA2.cell 2).trans x14; have c15 := (hA2.cell 3).trans x15; have c16 := (hA2.cell 4).trans x16; have c17 := (hA2.cell 5).trans x17; have c19 := (hA2.cell 7).trans x19; have c20 := (hA2.cell 8).trans x20; clear hB3 hN1 hA1 hW1))
  go_ret
  exact ⟨rfl, hW2⟩

set_option maxHeartbeats 2000000 in
theorem rchk17 (p : Ptp) (w : World) (h0 : (sizeOfKind p.kind == 0) = false) (e0 : inB p.dom 0 255 = true) (e1 : inB p.flags 0 65535 = true) (e2 : inB p.port 0 65535 = true) (e3 : inB p.seq 0 65535 = true) (e4 : inB p.logi (-128) 127 = true) (e5 : stampOk p.sec p.nano = true) (e6 : inB p.rport 0 65535 = true) (e7 : inB p.utc (-32768) 32767 = true) (e8 : inB p.p1 0 255 = true) (e9 : inB p.cls 0 255 = true) (e10 : inB p.acc 0 255 = true) (e11 : inB p.var 0 65535 = true) (e12 : inB p.p2 0 255 = true) (e13 : inB p.steps 0 65535 = true) (e14 : inB p.src 0 255 = true) (hse : stampErr p.sec p.nano = 0) (hq : isReq p.kind = false) (h10 : (p.rclock != 0) = false) (h11 : (p.rport != 0) = true) :
    Calls Try.prog 10 #[p.val] w fun e w' => e = .returned (.int .i64 7) ∧ Below w.heap.size w w' := by
  have hP : p.val = .agg p.cells.toArray := rfl
  have hN := Blk.new w 28 p.cells
  have hW := (Below.refl w.heap.size w).alloc (Nat.le_refl _) (.cells p.cells.toArray 28)
  have hP1 := ann_put p (w.alloc (.cells p.cells.toArray 28))
  have HP := hide (And.intro (hN.below' hP1.2) (And.intro hP1.1 (below_step hW hP1.2 hW.size)))
  have hra := ann_range p hN
  have hth : ((w.alloc (.cells p.cells.toArray 28)).alloc (.cells #[.int .i64 0, .int .i64 0, .int .i64 0, .int .i64 0, .int .i64 0, .int .i64 0, .int .u64 0, .int .i64 0, .int .i64 0] 26)).there (w.heap.size + 1) 0 p.ann.toArray.size := by
    have := there_blk (n := 9) (Blk.new (w.alloc (.cells p.cells.toArray 28)) 26 [.int .i64 0, .int .i64 0, .int .i64 0, .int .i64 0, .int .i64 0, .int .i64 0, .int .u64 0, .int .i64 0, .int .i64 0]) rfl
    rwa [World.size_alloc] at this
  rw [World.size_alloc] at HP
  have one0 := ann_one p
  have hi0 : (Try.prog.info? 26).map (·.size) = some p.ann.length := info9
  have hi1 : (Try.prog.info? 26).map (·.size) = some p.ann.toArray.size := info9
  have x0 : p.cells[0]? = some (.int .i64 p.kind) := rfl
  have x1 : p.cells[1]? = some (.int .i64 p.dom) := rfl
  have x2 : p.cells[2]? = some (.int .i64 p.flags) := rfl
  have x3 : p.cells[3]? = some (.int .i64 p.corr) := rfl
  have x4 : p.cells[4]? = some (.int .u64 p.clock) := rfl
  have x5 : p.cells[5]? = some (.int .i64 p.port) := rfl
  have x6 : p.cells[6]? = some (.int .i64 p.seq) := rfl
  have x7 : p.cells[7]? = some (.int .i64 p.logi) := rfl
  have x8 : p.cells[8]? = some (.int .i64 p.sec) := rfl
  have x9 : p.cells[9]? = some (.int .i64 p.nano) := rfl
  have x10 : p.cells[10]? = some (.int .u64 p.rclock) := rfl
  have x11 : p.cells[11]? = some (.int .i64 p.rport) := rfl
  have x12 : p.ann[0]? = some (.int .i64 p.utc) := rfl
  have x13 : p.ann[1]? = some (.int .i64 p.p1) := rfl
  have x14 : p.ann[2]? = some (.int .i64 p.cls) := rfl
  have x15 : p.ann[3]? = some (.int .i64 p.acc) := rfl
  have x16 : p.ann[4]? = some (.int .i64 p.var) := rfl
  have x17 : p.ann[5]? = some (.int .i64 p.p2) := rfl
  have x18 : p.ann[6]? = some (.int .u64 p.gm) := rfl
  have x19 : p.ann[7]? = some (.int .i64 p.steps) := rfl
  have x20 : p.ann[8]? = some (.int .i64 p.src) := rfl
  have Hz := hide (fun w => ann_neq1 p w)
  rw [hP]
  clear hP hP1 hW
  generalize p.cells = cp at *
  generalize p.ann = ca at *
  go_enter Try.func10, Try.ntmps10
  go_wp2_with (first
    | (refine wpList_load_mid rfl 26 _ rfl _ 12 rfl _ _ hra Try.underlying26 rfl hi0 ?_)
    | (refine wpList_store_mid rfl 26 _ _ rfl (w.heap.size + 1) 0 ca.toArray rfl rfl hth hi1 one0 ?_; refine wpList_gen (fun W => Blk W w.heap.size 28 cp ∧ Blk W (w.heap.size + 1) 26 ca ∧ Below w.heap.size w W) HP.out ?_; rintro W1 ⟨hN1, hA1, hW1⟩; clear hN HP hra hth one0 hi1; have c0 := (hN1.cell 0).trans x0; have c1 := (hN1.cell 1).trans x1; have c2 := (hN1.cell 2).trans x2; have c5 := (hN1.cell 5).trans x5; have c6 := (hN1.cell 6).trans x6; have c7 := (hN1.cell 7).trans x7; have c8 := (hN1.cell 8).trans x8; have c9 := (hN1.cell 9).trans x9)
    | (go_at_call 12; refine (refSize_any _ _).mono ?_; rintro e w2 ⟨rfl, rfl⟩)
    | (go_at_call 22; refine (refIn_any _ _ _ _).mono ?_; rintro e w2 ⟨rfl, rfl⟩)
    | (go_at_call 24; refine (refReq_any _ _).mono ?_; rintro e w2 ⟨rfl, rfl⟩)
    | (refine wpList_load_g 26 _ rfl (by kernel_rfl) _ 0 rfl _ _ (range21 hA2) Try.underlying26 rfl hi0 ?_)
    | (go_at_call 23; refine (refStamp_any _ _ _).mono ?_; rintro e w3 ⟨rfl, hB3⟩; rw [hse]; clear c0 c1 c2 c5 c6 c7 c8 c9; have hN2 := hN1.below' hB3; have hA2 := hA1.below' hB3; have hW2 := below_step hW1 hB3 hW1.size; have c0 := (hN2.cell 0).trans x0; have c10 := (hN2.cell 10).trans x10; have c11 := (hN2.cell 11).trans x11; have c12 := (hA2.cell 0).trans x12; have c13 := (hA2.cell 1).trans x13; have c14 := (hA2.cell 2).trans x14; have c15 := (hA2.cell 3).trans x15; have c16 := (hA2.cell 4).trans x16; have c17 := (hA2.cell 5).trans x17; have c19 := (hA2.cell 7).trans x19; have c20 := (hA2.cell 8).trans x20; clear hB3 hN1 hA1 hW1))
  go_ret
  exact ⟨rfl, hW2⟩

set_option maxHeartbeats 2000000 in
theorem rchk18 (p : Ptp) (w : World) (h0 : (sizeOfKind p.kind == 0) = false) (e0 : inB p.dom 0 255 = true) (e1 : inB p.flags 0 65535 = true) (e2 : inB p.port 0 65535 = true) (e3 : inB p.seq 0 65535 = true) (e4 : inB p.logi (-128) 127 = true) (e5 : stampOk p.sec p.nano = true) (e6 : inB p.rport 0 65535 = true) (e7 : inB p.utc (-32768) 32767 = true) (e8 : inB p.p1 0 255 = true) (e9 : inB p.cls 0 255 = true) (e10 : inB p.acc 0 255 = true) (e11 : inB p.var 0 65535 = true) (e12 : inB p.p2 0 255 = true) (e13 : inB p.steps 0 65535 = true) (e14 : inB p.src 0 255 = true) (hse : stampErr p.sec p.nano = 0) (hq : isReq p.kind = false) (h10 : (p.rclock != 0) = false) (h11 : (p.rport != 0) = false) (hk : (p.kind != 11) = false) :
    Calls Try.prog 10 #[p.val] w fun e w' => e = .returned (.int .i64 0) ∧ Below w.heap.size w w' := by
  have hP : p.val = .agg p.cells.toArray := rfl
  have hN := Blk.new w 28 p.cells
  have hW := (Below.refl w.heap.size w).alloc (Nat.le_refl _) (.cells p.cells.toArray 28)
  have hP1 := ann_put p (w.alloc (.cells p.cells.toArray 28))
  have HP := hide (And.intro (hN.below' hP1.2) (And.intro hP1.1 (below_step hW hP1.2 hW.size)))
  have hra := ann_range p hN
  have hth : ((w.alloc (.cells p.cells.toArray 28)).alloc (.cells #[.int .i64 0, .int .i64 0, .int .i64 0, .int .i64 0, .int .i64 0, .int .i64 0, .int .u64 0, .int .i64 0, .int .i64 0] 26)).there (w.heap.size + 1) 0 p.ann.toArray.size := by
    have := there_blk (n := 9) (Blk.new (w.alloc (.cells p.cells.toArray 28)) 26 [.int .i64 0, .int .i64 0, .int .i64 0, .int .i64 0, .int .i64 0, .int .i64 0, .int .u64 0, .int .i64 0, .int .i64 0]) rfl
    rwa [World.size_alloc] at this
  rw [World.size_alloc] at HP
  have one0 := ann_one p
  have hi0 : (Try.prog.info? 26).map (·.size) = some p.ann.length := info9
  have hi1 : (Try.prog.info? 26).map (·.size) = some p.ann.toArray.size := info9
  have x0 : p.cells[0]? = some (.int .i64 p.kind) := rfl
  have x1 : p.cells[1]? = some (.int .i64 p.dom) := rfl
  have x2 : p.cells[2]? = some (.int .i64 p.flags) := rfl
  have x3 : p.cells[3]? = some (.int .i64 p.corr) := rfl
  have x4 : p.cells[4]? = some (.int .u64 p.clock) := rfl
  have x5 : p.cells[5]? = some (.int .i64 p.port) := rfl
  have x6 : p.cells[6]? = some (.int .i64 p.seq) := rfl
  have x7 : p.cells[7]? = some (.int .i64 p.logi) := rfl
  have x8 : p.cells[8]? = some (.int .i64 p.sec) := rfl
  have x9 : p.cells[9]? = some (.int .i64 p.nano) := rfl
  have x10 : p.cells[10]? = some (.int .u64 p.rclock) := rfl
  have x11 : p.cells[11]? = some (.int .i64 p.rport) := rfl
  have x12 : p.ann[0]? = some (.int .i64 p.utc) := rfl
  have x13 : p.ann[1]? = some (.int .i64 p.p1) := rfl
  have x14 : p.ann[2]? = some (.int .i64 p.cls) := rfl
  have x15 : p.ann[3]? = some (.int .i64 p.acc) := rfl
  have x16 : p.ann[4]? = some (.int .i64 p.var) := rfl
  have x17 : p.ann[5]? = some (.int .i64 p.p2) := rfl
  have x18 : p.ann[6]? = some (.int .u64 p.gm) := rfl
  have x19 : p.ann[7]? = some (.int .i64 p.steps) := rfl
  have x20 : p.ann[8]? = some (.int .i64 p.src) := rfl
  have Hz := hide (fun w => ann_neq1 p w)
  rw [hP]
  clear hP hP1 hW
  generalize p.cells = cp at *
  generalize p.ann = ca at *
  go_enter Try.func10, Try.ntmps10
  go_wp2_with (first
    | (refine wpList_load_mid rfl 26 _ rfl _ 12 rfl _ _ hra Try.underlying26 rfl hi0 ?_)
    | (refine wpList_store_mid rfl 26 _ _ rfl (w.heap.size + 1) 0 ca.toArray rfl rfl hth hi1 one0 ?_; refine wpList_gen (fun W => Blk W w.heap.size 28 cp ∧ Blk W (w.heap.size + 1) 26 ca ∧ Below w.heap.size w W) HP.out ?_; rintro W1 ⟨hN1, hA1, hW1⟩; clear hN HP hra hth one0 hi1; have c0 := (hN1.cell 0).trans x0; have c1 := (hN1.cell 1).trans x1; have c2 := (hN1.cell 2).trans x2; have c5 := (hN1.cell 5).trans x5; have c6 := (hN1.cell 6).trans x6; have c7 := (hN1.cell 7).trans x7; have c8 := (hN1.cell 8).trans x8; have c9 := (hN1.cell 9).trans x9)
    | (go_at_call 12; refine (refSize_any _ _).mono ?_; rintro e w2 ⟨rfl, rfl⟩)
    | (go_at_call 22; refine (refIn_any _ _ _ _).mono ?_; rintro e w2 ⟨rfl, rfl⟩)
    | (go_at_call 24; refine (refReq_any _ _).mono ?_; rintro e w2 ⟨rfl, rfl⟩)
    | (go_at_call 23; refine (refStamp_any _ _ _).mono ?_; rintro e w3 ⟨rfl, hB3⟩; rw [hse]; clear c0 c1 c2 c5 c6 c7 c8 c9; have hN2 := hN1.below' hB3; have hA2 := hA1.below' hB3; have hW2 := below_step hW1 hB3 hW1.size; have c0 := (hN2.cell 0).trans x0; have c10 := (hN2.cell 10).trans x10; have c11 := (hN2.cell 11).trans x11; have c12 := (hA2.cell 0).trans x12; have c13 := (hA2.cell 1).trans x13; have c14 := (hA2.cell 2).trans x14; have c15 := (hA2.cell 3).trans x15; have c16 := (hA2.cell 4).trans x16; have c17 := (hA2.cell 5).trans x17; have c19 := (hA2.cell 7).trans x19; have c20 := (hA2.cell 8).trans x20; clear hB3 hN1 hA1 hW1))
  go_ret
  exact ⟨rfl, hW2⟩

set_option maxHeartbeats 2000000 in
theorem rchk19 (p : Ptp) (w : World) (h0 : (sizeOfKind p.kind == 0) = false) (e0 : inB p.dom 0 255 = true) (e1 : inB p.flags 0 65535 = true) (e2 : inB p.port 0 65535 = true) (e3 : inB p.seq 0 65535 = true) (e4 : inB p.logi (-128) 127 = true) (e5 : stampOk p.sec p.nano = true) (e6 : inB p.rport 0 65535 = true) (e7 : inB p.utc (-32768) 32767 = true) (e8 : inB p.p1 0 255 = true) (e9 : inB p.cls 0 255 = true) (e10 : inB p.acc 0 255 = true) (e11 : inB p.var 0 65535 = true) (e12 : inB p.p2 0 255 = true) (e13 : inB p.steps 0 65535 = true) (e14 : inB p.src 0 255 = true) (hse : stampErr p.sec p.nano = 0) (hq : isReq p.kind = false) (h10 : (p.rclock != 0) = false) (h11 : (p.rport != 0) = false) (hk : (p.kind != 11) = true) (hz : annZero p = false) :
    Calls Try.prog 10 #[p.val] w fun e w' => e = .returned (.int .i64 7) ∧ Below w.heap.size w w' := by
  have hP : p.val = .agg p.cells.toArray := rfl
  have hN := Blk.new w 28 p.cells
  have hW := (Below.refl w.heap.size w).alloc (Nat.le_refl _) (.cells p.cells.toArray 28)
  have hP1 := ann_put p (w.alloc (.cells p.cells.toArray 28))
  have HP := hide (And.intro (hN.below' hP1.2) (And.intro hP1.1 (below_step hW hP1.2 hW.size)))
  have hra := ann_range p hN
  have hth : ((w.alloc (.cells p.cells.toArray 28)).alloc (.cells #[.int .i64 0, .int .i64 0, .int .i64 0, .int .i64 0, .int .i64 0, .int .i64 0, .int .u64 0, .int .i64 0, .int .i64 0] 26)).there (w.heap.size + 1) 0 p.ann.toArray.size := by
    have := there_blk (n := 9) (Blk.new (w.alloc (.cells p.cells.toArray 28)) 26 [.int .i64 0, .int .i64 0, .int .i64 0, .int .i64 0, .int .i64 0, .int .i64 0, .int .u64 0, .int .i64 0, .int .i64 0]) rfl
    rwa [World.size_alloc] at this
  rw [World.size_alloc] at HP
  have one0 := ann_one p
  have hi0 : (Try.prog.info? 26).map (·.size) = some p.ann.length := info9
  have hi1 : (Try.prog.info? 26).map (·.size) = some p.ann.toArray.size := info9
  have x0 : p.cells[0]? = some (.int .i64 p.kind) := rfl
  have x1 : p.cells[1]? = some (.int .i64 p.dom) := rfl
  have x2 : p.cells[2]? = some (.int .i64 p.flags) := rfl
  have x3 : p.cells[3]? = some (.int .i64 p.corr) := rfl
  have x4 : p.cells[4]? = some (.int .u64 p.clock) := rfl
  have x5 : p.cells[5]? = some (.int .i64 p.port) := rfl
  have x6 : p.cells[6]? = some (.int .i64 p.seq) := rfl
  have x7 : p.cells[7]? = some (.int .i64 p.logi) := rfl
  have x8 : p.cells[8]? = some (.int .i64 p.sec) := rfl
  have x9 : p.cells[9]? = some (.int .i64 p.nano) := rfl
  have x10 : p.cells[10]? = some (.int .u64 p.rclock) := rfl
  have x11 : p.cells[11]? = some (.int .i64 p.rport) := rfl
  have x12 : p.ann[0]? = some (.int .i64 p.utc) := rfl
  have x13 : p.ann[1]? = some (.int .i64 p.p1) := rfl
  have x14 : p.ann[2]? = some (.int .i64 p.cls) := rfl
  have x15 : p.ann[3]? = some (.int .i64 p.acc) := rfl
  have x16 : p.ann[4]? = some (.int .i64 p.var) := rfl
  have x17 : p.ann[5]? = some (.int .i64 p.p2) := rfl
  have x18 : p.ann[6]? = some (.int .u64 p.gm) := rfl
  have x19 : p.ann[7]? = some (.int .i64 p.steps) := rfl
  have x20 : p.ann[8]? = some (.int .i64 p.src) := rfl
  have Hz := hide (fun w => ann_neq1 p w)
  rw [hP]
  rw [hz] at Hz
  clear hP hP1 hW
  generalize p.cells = cp at *
  generalize p.ann = ca at *
  have z := Hz.out
  go_enter Try.func10, Try.ntmps10
  go_wp2_with (first
    | (refine wpList_load_mid rfl 26 _ rfl _ 12 rfl _ _ hra Try.underlying26 rfl hi0 ?_)
    | (refine wpList_store_mid rfl 26 _ _ rfl (w.heap.size + 1) 0 ca.toArray rfl rfl hth hi1 one0 ?_; refine wpList_gen (fun W => Blk W w.heap.size 28 cp ∧ Blk W (w.heap.size + 1) 26 ca ∧ Below w.heap.size w W) HP.out ?_; rintro W1 ⟨hN1, hA1, hW1⟩; clear hN HP hra hth one0 hi1; have c0 := (hN1.cell 0).trans x0; have c1 := (hN1.cell 1).trans x1; have c2 := (hN1.cell 2).trans x2; have c5 := (hN1.cell 5).trans x5; have c6 := (hN1.cell 6).trans x6; have c7 := (hN1.cell 7).trans x7; have c8 := (hN1.cell 8).trans x8; have c9 := (hN1.cell 9).trans x9)
    | (go_at_call 12; refine (refSize_any _ _).mono ?_; rintro e w2 ⟨rfl, rfl⟩)
    | (go_at_call 22; refine (refIn_any _ _ _ _).mono ?_; rintro e w2 ⟨rfl, rfl⟩)
    | (go_at_call 24; refine (refReq_any _ _).mono ?_; rintro e w2 ⟨rfl, rfl⟩)
    | (refine wpList_load_g 26 _ rfl (by kernel_rfl) _ 0 rfl _ _ (range21 hA2) Try.underlying26 rfl hi0 ?_)
    | (go_at_call 23; refine (refStamp_any _ _ _).mono ?_; rintro e w3 ⟨rfl, hB3⟩; rw [hse]; clear c0 c1 c2 c5 c6 c7 c8 c9; have hN2 := hN1.below' hB3; have hA2 := hA1.below' hB3; have hW2 := below_step hW1 hB3 hW1.size; have c0 := (hN2.cell 0).trans x0; have c10 := (hN2.cell 10).trans x10; have c11 := (hN2.cell 11).trans x11; have c12 := (hA2.cell 0).trans x12; have c13 := (hA2.cell 1).trans x13; have c14 := (hA2.cell 2).trans x14; have c15 := (hA2.cell 3).trans x15; have c16 := (hA2.cell 4).trans x16; have c17 := (hA2.cell 5).trans x17; have c19 := (hA2.cell 7).trans x19; have c20 := (hA2.cell 8).trans x20; clear hB3 hN1 hA1 hW1))
  go_ret
  exact ⟨rfl, hW2⟩

set_option maxHeartbeats 2000000 in
theorem rchk20 (p : Ptp) (w : World) (h0 : (sizeOfKind p.kind == 0) = false) (e0 : inB p.dom 0 255 = true) (e1 : inB p.flags 0 65535 = true) (e2 : inB p.port 0 65535 = true) (e3 : inB p.seq 0 65535 = true) (e4 : inB p.logi (-128) 127 = true) (e5 : stampOk p.sec p.nano = true) (e6 : inB p.rport 0 65535 = true) (e7 : inB p.utc (-32768) 32767 = true) (e8 : inB p.p1 0 255 = true) (e9 : inB p.cls 0 255 = true) (e10 : inB p.acc 0 255 = true) (e11 : inB p.var 0 65535 = true) (e12 : inB p.p2 0 255 = true) (e13 : inB p.steps 0 65535 = true) (e14 : inB p.src 0 255 = true) (hse : stampErr p.sec p.nano = 0) (hq : isReq p.kind = false) (h10 : (p.rclock != 0) = false) (h11 : (p.rport != 0) = false) (hk : (p.kind != 11) = true) (hz : annZero p = true) :
    Calls Try.prog 10 #[p.val] w fun e w' => e = .returned (.int .i64 0) ∧ Below w.heap.size w w' := by
  have hP : p.val = .agg p.cells.toArray := rfl
  have hN := Blk.new w 28 p.cells
  have hW := (Below.refl w.heap.size w).alloc (Nat.le_refl _) (.cells p.cells.toArray 28)
  have hP1 := ann_put p (w.alloc (.cells p.cells.toArray 28))
  have HP := hide (And.intro (hN.below' hP1.2) (And.intro hP1.1 (below_step hW hP1.2 hW.size)))
  have hra := ann_range p hN
  have hth : ((w.alloc (.cells p.cells.toArray 28)).alloc (.cells #[.int .i64 0, .int .i64 0, .int .i64 0, .int .i64 0, .int .i64 0, .int .i64 0, .int .u64 0, .int .i64 0, .int .i64 0] 26)).there (w.heap.size + 1) 0 p.ann.toArray.size := by
    have := there_blk (n := 9) (Blk.new (w.alloc (.cells p.cells.toArray 28)) 26 [.int .i64 0, .int .i64 0, .int .i64 0, .int .i64 0, .int .i64 0, .int .i64 0, .int .u64 0, .int .i64 0, .int .i64 0]) rfl
    rwa [World.size_alloc] at this
  rw [World.size_alloc] at HP
  have one0 := ann_one p
  have hi0 : (Try.prog.info? 26).map (·.size) = some p.ann.length := info9
  have hi1 : (Try.prog.info? 26).map (·.size) = some p.ann.toArray.size := info9
  have x0 : p.cells[0]? = some (.int .i64 p.kind) := rfl
  have x1 : p.cells[1]? = some (.int .i64 p.dom) := rfl
  have x2 : p.cells[2]? = some (.int .i64 p.flags) := rfl
  have x3 : p.cells[3]? = some (.int .i64 p.corr) := rfl
  have x4 : p.cells[4]? = some (.int .u64 p.clock) := rfl
  have x5 : p.cells[5]? = some (.int .i64 p.port) := rfl
  have x6 : p.cells[6]? = some (.int .i64 p.seq) := rfl
  have x7 : p.cells[7]? = some (.int .i64 p.logi) := rfl
  have x8 : p.cells[8]? = some (.int .i64 p.sec) := rfl
  have x9 : p.cells[9]? = some (.int .i64 p.nano) := rfl
  have x10 : p.cells[10]? = some (.int .u64 p.rclock) := rfl
  have x11 : p.cells[11]? = some (.int .i64 p.rport) := rfl
  have x12 : p.ann[0]? = some (.int .i64 p.utc) := rfl
  have x13 : p.ann[1]? = some (.int .i64 p.p1) := rfl
  have x14 : p.ann[2]? = some (.int .i64 p.cls) := rfl
  have x15 : p.ann[3]? = some (.int .i64 p.acc) := rfl
  have x16 : p.ann[4]? = some (.int .i64 p.var) := rfl
  have x17 : p.ann[5]? = some (.int .i64 p.p2) := rfl
  have x18 : p.ann[6]? = some (.int .u64 p.gm) := rfl
  have x19 : p.ann[7]? = some (.int .i64 p.steps) := rfl
  have x20 : p.ann[8]? = some (.int .i64 p.src) := rfl
  have Hz := hide (fun w => ann_neq1 p w)
  rw [hP]
  rw [hz] at Hz
  clear hP hP1 hW
  generalize p.cells = cp at *
  generalize p.ann = ca at *
  have z := Hz.out
  go_enter Try.func10, Try.ntmps10
  go_wp2_with (first
    | (refine wpList_load_mid rfl 26 _ rfl _ 12 rfl _ _ hra Try.underlying26 rfl hi0 ?_)
    | (refine wpList_store_mid rfl 26 _ _ rfl (w.heap.size + 1) 0 ca.toArray rfl rfl hth hi1 one0 ?_; refine wpList_gen (fun W => Blk W w.heap.size 28 cp ∧ Blk W (w.heap.size + 1) 26 ca ∧ Below w.heap.size w W) HP.out ?_; rintro W1 ⟨hN1, hA1, hW1⟩; clear hN HP hra hth one0 hi1; have c0 := (hN1.cell 0).trans x0; have c1 := (hN1.cell 1).trans x1; have c2 := (hN1.cell 2).trans x2; have c5 := (hN1.cell 5).trans x5; have c6 := (hN1.cell 6).trans x6; have c7 := (hN1.cell 7).trans x7; have c8 := (hN1.cell 8).trans x8; have c9 := (hN1.cell 9).trans x9)
    | (go_at_call 12; refine (refSize_any _ _).mono ?_; rintro e w2 ⟨rfl, rfl⟩)
    | (go_at_call 22; refine (refIn_any _ _ _ _).mono ?_; rintro e w2 ⟨rfl, rfl⟩)
    | (go_at_call 24; refine (refReq_any _ _).mono ?_; rintro e w2 ⟨rfl, rfl⟩)
    | (refine wpList_load_g 26 _ rfl (by kernel_rfl) _ 0 rfl _ _ (range21 hA2) Try.underlying26 rfl hi0 ?_)
    | (go_at_call 23; refine (refStamp_any _ _ _).mono ?_; rintro e w3 ⟨rfl, hB3⟩; rw [hse]; clear c0 c1 c2 c5 c6 c7 c8 c9; have hN2 := hN1.below' hB3; have hA2 := hA1.below' hB3; have hW2 := below_step hW1 hB3 hW1.size; have c0 := (hN2.cell 0).trans x0; have c10 := (hN2.cell 10).trans x10; have c11 := (hN2.cell 11).trans x11; have c12 := (hA2.cell 0).trans x12; have c13 := (hA2.cell 1).trans x13; have c14 := (hA2.cell 2).trans x14; have c15 := (hA2.cell 3).trans x15; have c16 := (hA2.cell 4).trans x16; have c17 := (hA2.cell 5).trans x17; have c19 := (hA2.cell 7).trans x19; have c20 := (hA2.cell 8).trans x20; clear hB3 hN1 hA1 hW1))
  go_ret
  exact ⟨rfl, hW2⟩

set_option maxHeartbeats 2000000 in
theorem rchk21 (p : Ptp) (w : World) (h0 : (sizeOfKind p.kind == 0) = false) (e0 : inB p.dom 0 255 = true) (e1 : inB p.flags 0 65535 = true) (e2 : inB p.port 0 65535 = true) (e3 : inB p.seq 0 65535 = true) (e4 : inB p.logi (-128) 127 = true) (e5 : stampOk p.sec p.nano = true) (e6 : inB p.rport 0 65535 = true) (e7 : inB p.utc (-32768) 32767 = true) (e8 : inB p.p1 0 255 = true) (e9 : inB p.cls 0 255 = true) (e10 : inB p.acc 0 255 = true) (e11 : inB p.var 0 65535 = true) (e12 : inB p.p2 0 255 = true) (e13 : inB p.steps 0 65535 = true) (e14 : inB p.src 0 255 = true) (hse : stampErr p.sec p.nano = 0) (hq : isReq p.kind = true) (hk : (p.kind != 11) = true) (hz : annZero p = false) :
    Calls Try.prog 10 #[p.val] w fun e w' => e = .returned (.int .i64 7) ∧ Below w.heap.size w w' := by
  have hP : p.val = .agg p.cells.toArray := rfl
  have hN := Blk.new w 28 p.cells
  have hW := (Below.refl w.heap.size w).alloc (Nat.le_refl _) (.cells p.cells.toArray 28)
  have hP1 := ann_put p (w.alloc (.cells p.cells.toArray 28))
  have HP := hide (And.intro (hN.below' hP1.2) (And.intro hP1.1 (below_step hW hP1.2 hW.size)))
  have hra := ann_range p hN
  have hth : ((w.alloc (.cells p.cells.toArray 28)).alloc (.cells #[.int .i64 0, .int .i64 0, .int .i64 0, .int .i64 0, .int .i64 0, .int .i64 0, .int .u64 0, .int .i64 0, .int .i64 0] 26)).there (w.heap.size + 1) 0 p.ann.toArray.size := by
    have := there_blk (n := 9) (Blk.new (w.alloc (.cells p.cells.toArray 28)) 26 [.int .i64 0, .int .i64 0, .int .i64 0, .int .i64 0, .int .i64 0, .int .i64 0, .int .u64 0, .int .i64 0, .int .i64 0]) rfl
    rwa [World.size_alloc] at this
  rw [World.size_alloc] at HP
  have one0 := ann_one p
  have hi0 : (Try.prog.info? 26).map (·.size) = some p.ann.length := info9
  have hi1 : (Try.prog.info? 26).map (·.size) = some p.ann.toArray.size := info9
  have x0 : p.cells[0]? = some (.int .i64 p.kind) := rfl
  have x1 : p.cells[1]? = some (.int .i64 p.dom) := rfl
  have x2 : p.cells[2]? = some (.int .i64 p.flags) := rfl
  have x3 : p.cells[3]? = some (.int .i64 p.corr) := rfl
  have x4 : p.cells[4]? = some (.int .u64 p.clock) := rfl
  have x5 : p.cells[5]? = some (.int .i64 p.port) := rfl
  have x6 : p.cells[6]? = some (.int .i64 p.seq) := rfl
  have x7 : p.cells[7]? = some (.int .i64 p.logi) := rfl
  have x8 : p.cells[8]? = some (.int .i64 p.sec) := rfl
  have x9 : p.cells[9]? = some (.int .i64 p.nano) := rfl
  have x10 : p.cells[10]? = some (.int .u64 p.rclock) := rfl
  have x11 : p.cells[11]? = some (.int .i64 p.rport) := rfl
  have x12 : p.ann[0]? = some (.int .i64 p.utc) := rfl
  have x13 : p.ann[1]? = some (.int .i64 p.p1) := rfl
  have x14 : p.ann[2]? = some (.int .i64 p.cls) := rfl
  have x15 : p.ann[3]? = some (.int .i64 p.acc) := rfl
  have x16 : p.ann[4]? = some (.int .i64 p.var) := rfl
  have x17 : p.ann[5]? = some (.int .i64 p.p2) := rfl
  have x18 : p.ann[6]? = some (.int .u64 p.gm) := rfl
  have x19 : p.ann[7]? = some (.int .i64 p.steps) := rfl
  have x20 : p.ann[8]? = some (.int .i64 p.src) := rfl
  have Hz := hide (fun w => ann_neq1 p w)
  rw [hP]
  rw [hz] at Hz
  clear hP hP1 hW
  generalize p.cells = cp at *
  generalize p.ann = ca at *
  have z := Hz.out
  go_enter Try.func10, Try.ntmps10
  go_wp2_with (first
    | (refine wpList_load_mid rfl 26 _ rfl _ 12 rfl _ _ hra Try.underlying26 rfl hi0 ?_)
    | (refine wpList_store_mid rfl 26 _ _ rfl (w.heap.size + 1) 0 ca.toArray rfl rfl hth hi1 one0 ?_; refine wpList_gen (fun W => Blk W w.heap.size 28 cp ∧ Blk W (w.heap.size + 1) 26 ca ∧ Below w.heap.size w W) HP.out ?_; rintro W1 ⟨hN1, hA1, hW1⟩; clear hN HP hra hth one0 hi1; have c0 := (hN1.cell 0).trans x0; have c1 := (hN1.cell 1).trans x1; have c2 := (hN1.cell 2).trans x2; have c5 := (hN1.cell 5).trans x5; have c6 := (hN1.cell 6).trans x6; have c7 := (hN1.cell 7).trans x7; have c8 := (hN1.cell 8).trans x8; have c9 := (hN1.cell 9).trans x9)
    | (go_at_call 12; refine (refSize_any _ _).mono ?_; rintro e w2 ⟨rfl, rfl⟩)
    | (go_at_call 22; refine (refIn_any _ _ _ _).mono ?_; rintro e w2 ⟨rfl, rfl⟩)
    | (go_at_call 24; refine (refReq_any _ _).mono ?_; rintro e w2 ⟨rfl, rfl⟩; rw [hq]; refine Hid.out ?_)
    | (refine wpList_load_g 26 _ rfl (by kernel_rfl) _ 0 rfl _ _ (range21 hA2) Try.underlying26 rfl hi0 ?_)
    | (go_at_call 23; refine (refStamp_any _ _ _).mono ?_; rintro e w3 ⟨rfl, hB3⟩; rw [hse]; clear c0 c1 c2 c5 c6 c7 c8 c9; have hN2 := hN1.below' hB3; have hA2 := hA1.below' hB3; have hW2 := below_step hW1 hB3 hW1.size; have c0 := (hN2.cell 0).trans x0; have c10 := (hN2.cell 10).trans x10; have c11 := (hN2.cell 11).trans x11; have c12 := (hA2.cell 0).trans x12; have c13 := (hA2.cell 1).trans x13; have c14 := (hA2.cell 2).trans x14; have c15 := (hA2.cell 3).trans x15; have c16 := (hA2.cell 4).trans x16; have c17 := (hA2.cell 5).trans x17; have c19 := (hA2.cell 7).trans x19; have c20 := (hA2.cell 8).trans x20; clear hB3 hN1 hA1 hW1))
  refine hide ?_
  go_upto_region 10 with (fail)
  go_wp2_with (refine wpList_load_g 26 _ rfl (by kernel_rfl) _ 0 rfl _ _ (range21 hA2) Try.underlying26 rfl hi0 ?_)
  go_ret
  exact ⟨rfl, hW2⟩

set_option maxHeartbeats 2000000 in
theorem rchk22 (p : Ptp) (w : World) (h0 : (sizeOfKind p.kind == 0) = false) (e0 : inB p.dom 0 255 = true) (e1 : inB p.flags 0 65535 = true) (e2 : inB p.port 0 65535 = true) (e3 : inB p.seq 0 65535 = true) (e4 : inB p.logi (-128) 127 = true) (e5 : stampOk p.sec p.nano = true) (e6 : inB p.rport 0 65535 = true) (e7 : inB p.utc (-32768) 32767 = true) (e8 : inB p.p1 0 255 = true) (e9 : inB p.cls 0 255 = true) (e10 : inB p.acc 0 255 = true) (e11 : inB p.var 0 65535 = true) (e12 : inB p.p2 0 255 = true) (e13 : inB p.steps 0 65535 = true) (e14 : inB p.src 0 255 = true) (hse : stampErr p.sec p.nano = 0) (hq : isReq p.kind = true) (hk : (p.kind != 11) = true) (hz : annZero p = true) :
    Calls Try.prog 10 #[p.val] w fun e w' => e = .returned (.int .i64 0) ∧ Below w.heap.size w w' := by
  have hP : p.val = .agg p.cells.toArray := rfl
  have hN := Blk.new w 28 p.cells
  have hW := (Below.refl w.heap.size w).alloc (Nat.le_refl _) (.cells p.cells.toArray 28)
  have hP1 := ann_put p (w.alloc (.cells p.cells.toArray 28))
  have HP := hide (And.intro (hN.below' hP1.2) (And.intro hP1.1 (below_step hW hP1.2 hW.size)))
  have hra := ann_range p hN
  have hth : ((w.alloc (.cells p.cells.toArray 28)).alloc (.cells #[.int .i64 0, .int .i64 0, .int .i64 0, .int .i64 0, .int .i64 0, .int .i64 0, .int .u64 0, .int .i64 0, .int .i64 0] 26)).there (w.heap.size + 1) 0 p.ann.toArray.size := by
    have := there_blk (n := 9) (Blk.new (w.alloc (.cells p.cells.toArray 28)) 26 [.int .i64 0, .int .i64 0, .int .i64 0, .int .i64 0, .int .i64 0, .int .i64 0, .int .u64 0, .int .i64 0, .int .i64 0]) rfl
    rwa [World.size_alloc] at this
  rw [World.size_alloc] at HP
  have one0 := ann_one p
  have hi0 : (Try.prog.info? 26).map (·.size) = some p.ann.length := info9
  have hi1 : (Try.prog.info? 26).map (·.size) = some p.ann.toArray.size := info9
  have x0 : p.cells[0]? = some (.int .i64 p.kind) := rfl
  have x1 : p.cells[1]? = some (.int .i64 p.dom) := rfl
  have x2 : p.cells[2]? = some (.int .i64 p.flags) := rfl
  have x3 : p.cells[3]? = some (.int .i64 p.corr) := rfl
  have x4 : p.cells[4]? = some (.int .u64 p.clock) := rfl
  have x5 : p.cells[5]? = some (.int .i64 p.port) := rfl
  have x6 : p.cells[6]? = some (.int .i64 p.seq) := rfl
  have x7 : p.cells[7]? = some (.int .i64 p.logi) := rfl
  have x8 : p.cells[8]? = some (.int .i64 p.sec) := rfl
  have x9 : p.cells[9]? = some (.int .i64 p.nano) := rfl
  have x10 : p.cells[10]? = some (.int .u64 p.rclock) := rfl
  have x11 : p.cells[11]? = some (.int .i64 p.rport) := rfl
  have x12 : p.ann[0]? = some (.int .i64 p.utc) := rfl
  have x13 : p.ann[1]? = some (.int .i64 p.p1) := rfl
  have x14 : p.ann[2]? = some (.int .i64 p.cls) := rfl
  have x15 : p.ann[3]? = some (.int .i64 p.acc) := rfl
  have x16 : p.ann[4]? = some (.int .i64 p.var) := rfl
  have x17 : p.ann[5]? = some (.int .i64 p.p2) := rfl
  have x18 : p.ann[6]? = some (.int .u64 p.gm) := rfl
  have x19 : p.ann[7]? = some (.int .i64 p.steps) := rfl
  have x20 : p.ann[8]? = some (.int .i64 p.src) := rfl
  have Hz := hide (fun w => ann_neq1 p w)
  rw [hP]
  rw [hz] at Hz
  clear hP hP1 hW
  generalize p.cells = cp at *
  generalize p.ann = ca at *
  have z := Hz.out
  go_enter Try.func10, Try.ntmps10
  go_wp2_with (first
    | (refine wpList_load_mid rfl 26 _ rfl _ 12 rfl _ _ hra Try.underlying26 rfl hi0 ?_)
    | (refine wpList_store_mid rfl 26 _ _ rfl (w.heap.size + 1) 0 ca.toArray rfl rfl hth hi1 one0 ?_; refine wpList_gen (fun W => Blk W w.heap.size 28 cp ∧ Blk W (w.heap.size + 1) 26 ca ∧ Below w.heap.size w W) HP.out ?_; rintro W1 ⟨hN1, hA1, hW1⟩; clear hN HP hra hth one0 hi1; have c0 := (hN1.cell 0).trans x0; have c1 := (hN1.cell 1).trans x1; have c2 := (hN1.cell 2).trans x2; have c5 := (hN1.cell 5).trans x5; have c6 := (hN1.cell 6).trans x6; have c7 := (hN1.cell 7).trans x7; have c8 := (hN1.cell 8).trans x8; have c9 := (hN1.cell 9).trans x9)
    | (go_at_call 12; refine (refSize_any _ _).mono ?_; rintro e w2 ⟨rfl, rfl⟩)
    | (go_at_call 22; refine (refIn_any _ _ _ _).mono ?_; rintro e w2 ⟨rfl, rfl⟩)
    | (go_at_call 24; refine (refReq_any _ _).mono ?_; rintro e w2 ⟨rfl, rfl⟩; rw [hq]; refine Hid.out ?_)
    | (refine wpList_load_g 26 _ rfl (by kernel_rfl) _ 0 rfl _ _ (range21 hA2) Try.underlying26 rfl hi0 ?_)
    | (go_at_call 23; refine (refStamp_any _ _ _).mono ?_; rintro e w3 ⟨rfl, hB3⟩; rw [hse]; clear c0 c1 c2 c5 c6 c7 c8 c9; have hN2 := hN1.below' hB3; have hA2 := hA1.below' hB3; have hW2 := below_step hW1 hB3 hW1.size; have c0 := (hN2.cell 0).trans x0; have c10 := (hN2.cell 10).trans x10; have c11 := (hN2.cell 11).trans x11; have c12 := (hA2.cell 0).trans x12; have c13 := (hA2.cell 1).trans x13; have c14 := (hA2.cell 2).trans x14; have c15 := (hA2.cell 3).trans x15; have c16 := (hA2.cell 4).trans x16; have c17 := (hA2.cell 5).trans x17; have c19 := (hA2.cell 7).trans x19; have c20 := (hA2.cell 8).trans x20; clear hB3 hN1 hA1 hW1))
  refine hide ?_
  go_upto_region 10 with (fail)
  go_wp2_with (refine wpList_load_g 26 _ rfl (by kernel_rfl) _ 0 rfl _ _ (range21 hA2) Try.underlying26 rfl hi0 ?_)
  go_ret
  exact ⟨rfl, hW2⟩

theorem refCheck_any (p : Ptp) (w : World) : Calls Try.prog 10 #[p.val] w fun e w' => e = .returned (.int .i64 (ptpCheck p)) ∧ Below w.heap.size w w' := by
  unfold ptpCheck
  by_cases h0 : sizeOfKind p.kind = 0
  · rw [if_pos h0]
    exact rchk0 p w h0
  rw [if_neg h0]
  have h0' : (sizeOfKind p.kind == 0) = false := by simpa using h0
  cases hr : inRangeB p
  · rw [if_pos rfl]
    unfold inRangeB at hr
    cases e0 : inB p.dom 0 255
    · exact rchk1 p w h0' e0
    cases e1 : inB p.flags 0 65535
    · exact rchk2 p w h0' e0 e1
    cases e2 : inB p.port 0 65535
    · exact rchk3 p w h0' e0 e1 e2
    cases e3 : inB p.seq 0 65535
    · exact rchk4 p w h0' e0 e1 e2 e3
    cases e4 : inB p.logi (-128) 127
    · exact rchk5 p w h0' e0 e1 e2 e3 e4
    cases e5 : stampOk p.sec p.nano
    · exact rchk6 p w h0' e0 e1 e2 e3 e4 e5 (by unfold stampErr; rw [e5]; rfl)
    cases e6 : inB p.rport 0 65535
    · exact rchk7 p w h0' e0 e1 e2 e3 e4 e5 e6 (by unfold stampErr; rw [e5]; rfl)
    cases e7 : inB p.utc (-32768) 32767
    · exact rchk8 p w h0' e0 e1 e2 e3 e4 e5 e6 e7 (by unfold stampErr; rw [e5]; rfl)
    cases e8 : inB p.p1 0 255
    · exact rchk9 p w h0' e0 e1 e2 e3 e4 e5 e6 e7 e8 (by unfold stampErr; rw [e5]; rfl)
    cases e9 : inB p.cls 0 255
    · exact rchk10 p w h0' e0 e1 e2 e3 e4 e5 e6 e7 e8 e9 (by unfold stampErr; rw [e5]; rfl)
    cases e10 : inB p.acc 0 255
    · exact rchk11 p w h0' e0 e1 e2 e3 e4 e5 e6 e7 e8 e9 e10 (by unfold stampErr; rw [e5]; rfl)
    cases e11 : inB p.var 0 65535
    · exact rchk12 p w h0' e0 e1 e2 e3 e4 e5 e6 e7 e8 e9 e10 e11 (by unfold stampErr; rw [e5]; rfl)
    cases e12 : inB p.p2 0 255
    · exact rchk13 p w h0' e0 e1 e2 e3 e4 e5 e6 e7 e8 e9 e10 e11 e12 (by unfold stampErr; rw [e5]; rfl)
    cases e13 : inB p.steps 0 65535
    · exact rchk14 p w h0' e0 e1 e2 e3 e4 e5 e6 e7 e8 e9 e10 e11 e12 e13 (by unfold stampErr; rw [e5]; rfl)
    cases e14 : inB p.src 0 255
    · exact rchk15 p w h0' e0 e1 e2 e3 e4 e5 e6 e7 e8 e9 e10 e11 e12 e13 e14 (by unfold stampErr; rw [e5]; rfl)
    exact absurd hr (by simp [e0, e1, e2, e3, e4, e5, e6, e7, e8, e9, e10, e11, e12, e13, e14])
  rw [if_neg (by simp)]
  unfold inRangeB at hr
  simp only [Bool.and_eq_true] at hr
  obtain ⟨e0, e1, e2, e3, e4, e5, e6, e7, e8, e9, e10, e11, e12, e13, e14⟩ := hr
  have hse : stampErr p.sec p.nano = 0 := by unfold stampErr; rw [e5]; rfl
  cases hq : isReq p.kind
  · by_cases hc : p.rclock = 0
    · have hc' : (p.rclock != 0) = false := by simpa using hc
      by_cases hd : p.rport = 0
      · have hd' : (p.rport != 0) = false := by simpa using hd
        rw [if_neg (by simp [hc, hd])]
        by_cases h11 : p.kind = 11
        · rw [if_neg (by simp [h11])]
          exact rchk18 p w h0' e0 e1 e2 e3 e4 e5 e6 e7 e8 e9 e10 e11 e12 e13 e14 hse hq hc' hd' (by simpa using h11)
        · cases hz : annZero p
          · rw [if_pos ⟨h11, rfl⟩]
            exact rchk19 p w h0' e0 e1 e2 e3 e4 e5 e6 e7 e8 e9 e10 e11 e12 e13 e14 hse hq hc' hd' (by simpa using h11) hz
          · rw [if_neg (by simp)]
            exact rchk20 p w h0' e0 e1 e2 e3 e4 e5 e6 e7 e8 e9 e10 e11 e12 e13 e14 hse hq hc' hd' (by simpa using h11) hz
      · rw [if_pos ⟨rfl, .inr hd⟩]
        exact rchk17 p w h0' e0 e1 e2 e3 e4 e5 e6 e7 e8 e9 e10 e11 e12 e13 e14 hse hq hc' (by simpa using hd)
    · rw [if_pos ⟨rfl, .inl hc⟩]
      exact rchk16 p w h0' e0 e1 e2 e3 e4 e5 e6 e7 e8 e9 e10 e11 e12 e13 e14 hse hq (by simpa using hc)
  · have h11 : p.kind ≠ 11 := by
      intro h
      rw [h] at hq
      exact absurd hq (by decide)
    rw [if_neg (by simp)]
    cases hz : annZero p
    · rw [if_pos ⟨h11, rfl⟩]
      exact rchk21 p w h0' e0 e1 e2 e3 e4 e5 e6 e7 e8 e9 e10 e11 e12 e13 e14 hse hq (by simpa using h11) hz
    · rw [if_neg (by simp)]
      exact rchk22 p w h0' e0 e1 e2 e3 e4 e5 e6 e7 e8 e9 e10 e11 e12 e13 e14 hse hq (by simpa using h11) hz
end Go.Proofs.Ytlobddhpkemklaa
