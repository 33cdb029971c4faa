/- The reference's Encode.
  SEATS: ptp -/
import Derived.Test.YtlobddhpkemklaaRefE
import Derived.Test.YtlobddhpkemklaaRefChk
import Derived.Test.YtlobddhpkemklaaStepE
import Derived.Test.YtlobddhpkemklaaPtpP
import Derived.Deep.RegionHeld3
namespace Go.Proofs.Ytlobddhpkemklaa
open Go.RowKit
set_option linter.unusedVariables false

theorem put_enc {w0 w : World} {ks ls : List (Nat × TypeId × List Value)} {A : Option Addr} {m c N : Nat} {bs : List UInt8} (E : Enc w0 w ks ls (.slice A m c) bs N) (n : Int) (s : Nat) (hs : s ≤ 8 ∨ n = 0 ∧ s ≤ 10) (hN : N + s ≤ 1000) :
    Calls Try.prog 30 #[.slice A m c, .int .i64 n, .int .i64 s] w fun e w' => ∃ A' n' c', e = .returned (.slice A' n' c') ∧ Enc w0 w' ks ls (.slice A' n' c') (bs ++ low n s) (N + s) := by
  have hl := E.len
  refine (refPut_any A m c bs n s w0.heap.size w E.own E.size hs (by omega)).mono ?_
  rintro e w' ⟨A', n', c', rfl, hown, hg⟩
  exact ⟨A', n', c', rfl, E.gr hown hg (by rw [List.length_append, low_length]; have := E.2.2.2.2; omega)⟩
theorem clock_enc {w0 w : World} {ks ls : List (Nat × TypeId × List Value)} {A : Option Addr} {m c N : Nat} {bs : List UInt8} (E : Enc w0 w ks ls (.slice A m c) bs N) (n : Int) (h0 : 0 ≤ n ∧ n ≤ 18446744073709551615) (hN : N + 8 ≤ 1000) :
    Calls Try.prog 31 #[.slice A m c, .int .u64 n] w fun e w' => ∃ A' n' c', e = .returned (.slice A' n' c') ∧ Enc w0 w' ks ls (.slice A' n' c') (bs ++ be n.toNat 8) (N + 8) := by
  have hl := E.len
  refine (refClock_any A m c bs n w E.own.rb h0 (by omega)).mono ?_
  rintro e w' ⟨A', n', c', rfl, hown, hB⟩
  exact ⟨A', n', c', rfl, E.gr (hown.mono E.size) (Gr.fresh hB (fun k hk => (World.ownsRow.lt hown k hk).1)) (by rw [List.length_append, be_length]; have := E.2.2.2.2; omega)⟩
theorem byte_low (x : Int) : [Value.int .u8 (x % 256)] = BV (low x 1) := by
  unfold low be
  have h1 : 0 ≤ x % 256 := Int.emod_nonneg _ (by omega)
  have h2 : x % 256 < 256 := Int.emod_lt_of_pos _ (by omega)
  obtain ⟨y, hy⟩ := Int.eq_ofNat_of_zero_le h1
  have e : x % 2 ^ (8 * 1) = x % 256 := rfl
  rw [e, hy, be]
  rw [hy] at h2
  simp [BV]
  omega
theorem bytes2_low (x y : Int) : [Value.int .u8 (x % 256), .int .u8 (y % 256)] = BV (low x 1 ++ low y 1) := by
  rw [BV_append, ← byte_low, ← byte_low]
  rfl
theorem bytes4_low (a x y z : Int) : [Value.int .u8 (a % 256), .int .u8 (x % 256), .int .u8 (y % 256), .int .u8 (z % 256)] = BV (low a 1 ++ low x 1 ++ low y 1 ++ low z 1) := by
  rw [BV_append, BV_append, BV_append, ← byte_low, ← byte_low, ← byte_low, ← byte_low]
  rfl
/-- The literal that the first bytes are. -/
theorem first_enc {w0 w : World} {cp : List Value} (hN : Blk w w0.heap.size 28 cp) (hW : Below w0.heap.size w0 w) (x y : Int) :
    Enc w0 (w.alloc (.cells #[.int .u8 (x % 256), .int .u8 (y % 256)] 5)) [(w0.heap.size, 28, cp)] [] (.slice (some ⟨w.heap.size, 0, none⟩) 2 2) (low x 1 ++ low y 1) 2 := by
  have hlt := hN.lt
  refine ⟨⟨_, _, _, rfl, OwnB.of_blk (by rw [← bytes2_low]; exact Blk.new w _ _) (by simp [low_length]) (Nat.le_of_lt hlt) (by omega)⟩, fun z hz => ?_, fun z hz => by simp at hz, hW.alloc hW.size _, by simp [low_length]⟩
  obtain rfl := List.mem_singleton.1 hz
  exact ⟨hN.alloc _, by simp [Value.ownBlock]; omega⟩

theorem be_low (p : Int) (h : 0 ≤ p ∧ p ≤ 18446744073709551615) : be p.toNat 8 = low (wrap64 p) 8 := by
  rw [low_wrap, low_fit p 8 h.1 (by simp only [Nat.reduceMul, Int.reducePow]; omega)]
theorem bytes_head (p : Ptp) (hin : p.In) (tl : List UInt8) : (low p.kind 1 ++ low 2 1 ++ low (sizeOfKind p.kind) 2 ++ (low p.dom 1 ++ low 0 1) ++ low p.flags 2 ++ low p.corr 8 ++ low 0 4 ++ be p.clock.toNat 8 ++ low p.port 2 ++ low p.seq 2 ++ (low (controlOf p.kind) 1 ++ low p.logi 1) ++ stampBytes p.sec p.nano) ++ tl = ptpHead p ++ (stampBytes p.sec p.nano ++ tl) := by
  rw [be_low _ hin.clock]
  unfold ptpHead
  simp only [List.append_assoc]
theorem bytes_req (p : Ptp) (hin : p.In) (hq : isReq p.kind = true) : low p.kind 1 ++ low 2 1 ++ low (sizeOfKind p.kind) 2 ++ (low p.dom 1 ++ low 0 1) ++ low p.flags 2 ++ low p.corr 8 ++ low 0 4 ++ be p.clock.toNat 8 ++ low p.port 2 ++ low p.seq 2 ++ (low (controlOf p.kind) 1 ++ low p.logi 1) ++ stampBytes p.sec p.nano ++ be p.rclock.toNat 8 ++ low p.rport 2 = ptpBytes p := by
  rw [List.append_assoc _ (be _ _), bytes_head p hin]
  unfold ptpBytes ptpTail
  rw [if_pos hq, be_low _ hin.rclock]
theorem bytes_pdel (p : Ptp) (hin : p.In) (h2 : p.kind = 2) : low p.kind 1 ++ low 2 1 ++ low (sizeOfKind p.kind) 2 ++ (low p.dom 1 ++ low 0 1) ++ low p.flags 2 ++ low p.corr 8 ++ low 0 4 ++ be p.clock.toNat 8 ++ low p.port 2 ++ low p.seq 2 ++ (low (controlOf p.kind) 1 ++ low p.logi 1) ++ stampBytes p.sec p.nano ++ low 0 10 = ptpBytes p := by
  rw [bytes_head p hin]
  unfold ptpBytes ptpTail
  rw [if_neg (by rw [h2]; decide), if_pos h2]
  rfl
theorem bytes_no (p : Ptp) (hin : p.In) (hq : isReq p.kind = false) (h2 : p.kind ≠ 2) (h11 : p.kind ≠ 11) : low p.kind 1 ++ low 2 1 ++ low (sizeOfKind p.kind) 2 ++ (low p.dom 1 ++ low 0 1) ++ low p.flags 2 ++ low p.corr 8 ++ low 0 4 ++ be p.clock.toNat 8 ++ low p.port 2 ++ low p.seq 2 ++ (low (controlOf p.kind) 1 ++ low p.logi 1) ++ stampBytes p.sec p.nano = ptpBytes p := by
  have := bytes_head p hin []
  rw [List.append_nil, List.append_nil] at this
  rw [this]
  unfold ptpBytes ptpTail
  rw [if_neg (by simp [hq]), if_neg h2, if_neg h11, List.append_nil]
theorem bytes_ann (p : Ptp) (hin : p.In) (h11 : p.kind = 11) : low p.kind 1 ++ low 2 1 ++ low (sizeOfKind p.kind) 2 ++ (low p.dom 1 ++ low 0 1) ++ low p.flags 2 ++ low p.corr 8 ++ low 0 4 ++ be p.clock.toNat 8 ++ low p.port 2 ++ low p.seq 2 ++ (low (controlOf p.kind) 1 ++ low p.logi 1) ++ stampBytes p.sec p.nano ++ low p.utc 2 ++ (low 0 1 ++ low p.p1 1 ++ low p.cls 1 ++ low p.acc 1) ++ low p.var 2 ++ low p.p2 1 ++ be p.gm.toNat 8 ++ low p.steps 2 ++ low p.src 1 = ptpBytes p := by
  have := bytes_head p hin (annBytes p)
  unfold ptpBytes ptpTail
  rw [if_neg (by rw [h11]; decide), if_neg (by omega), if_pos h11, ← this, be_low _ hin.gm]
  unfold annBytes
  simp only [List.append_assoc]

set_option maxRecDepth 4000 in
theorem refEncode_err (p : Ptp) (w : World) (h : ptpCheck p ≠ 0) : Calls Try.prog 15 #[p.val] w fun e w' => e = .returned (.tuple #[.slice none 0 0, .int .i64 (ptpCheck p)]) ∧ Below w.heap.size w w' := by
  have hN := Blk.new w 28 p.cells
  have hW := (Below.refl w.heap.size w).alloc (Nat.le_refl _) (.cells p.cells.toArray 28)
  have HC := hide (fun w => refCheck_any p w)
  have hc' : (ptpCheck p != 0) = true := by simpa using h
  have hi1 : (Try.prog.info? 28).map (·.size) = some p.cells.length := info21
  rw [show p.val = .agg p.cells.toArray from rfl] at HC ⊢
  generalize p.cells = cp at *
  generalize ptpCheck p = r at *
  clear h
  go_enter Try.func15, Try.ntmps15
  go_wp2_with (first
    | (refine wpList_load_mid rfl 28 _ rfl _ 0 rfl _ _ (range21 hN) Try.underlying28 rfl hi1 ?_)
    | (go_at_call 10; refine (HC.out _).mono ?_; rintro e w1 ⟨rfl, hB1⟩))
  go_ret2
  exact ⟨rfl, below_step hW hB1 hW.size⟩

set_option maxRecDepth 4000 in
set_option maxHeartbeats 4000000 in
theorem refEncode_ok (p : Ptp) (w : World) (hin : p.In) (h : ptpCheck p = 0) : Calls Try.prog 15 #[p.val] w fun e w' => ∃ A n c, e = .returned (.tuple #[.slice A n c, .int .i64 0]) ∧ OwnB w' w.heap.size A n c (ptpBytes p) ∧ Below w.heap.size w w' := by
  have hN := Blk.new w 28 p.cells
  have hW := (Below.refl w.heap.size w).alloc (Nat.le_refl _) (.cells p.cells.toArray 28)
  have HC := hide (fun w => refCheck_any p w)
  rw [h] at HC
  have hi1 : (Try.prog.info? 28).map (·.size) = some p.cells.length := info21
  have hst := inRange_stamp (ptp_ok h).2
  have HT := hide (fun w => refStampEnc_any p.sec p.nano w hst)
  obtain ⟨BT, HBT⟩ : ∃ BT, Hid (BT = ptpBytes p) := ⟨_, rfl⟩
  rw [show p.val = .agg p.cells.toArray from rfl] at HC ⊢
  rw [← HBT.out]
  have Hin := hide hin
  have Hh := hide h
  clear h hst hin
  have x0 : p.cells[0]? = some (.int .i64 p.kind) := rfl
  have x1 : p.cells[1]? = some (.int .i64 p.dom) := rfl
  have x2 : p.cells[2]? = some (.int .i64 p.flags) := rfl
  have x3 : p.cells[3]? = some (.int .i64 p.corr) := rfl
  have x4 : p.cells[4]? = some (.int .u64 p.clock) := rfl
  have x5 : p.cells[5]? = some (.int .i64 p.port) := rfl
  have x6 : p.cells[6]? = some (.int .i64 p.seq) := rfl
  have x7 : p.cells[7]? = some (.int .i64 p.logi) := rfl
  have x8 : p.cells[8]? = some (.int .i64 p.sec) := rfl
  have x9 : p.cells[9]? = some (.int .i64 p.nano) := rfl
  have x10 : p.cells[10]? = some (.int .u64 p.rclock) := rfl
  have x11 : p.cells[11]? = some (.int .i64 p.rport) := rfl
  have x12 : p.cells[12]? = some (.int .i64 p.utc) := rfl
  have x13 : p.cells[13]? = some (.int .i64 p.p1) := rfl
  have x14 : p.cells[14]? = some (.int .i64 p.cls) := rfl
  have x15 : p.cells[15]? = some (.int .i64 p.acc) := rfl
  have x16 : p.cells[16]? = some (.int .i64 p.var) := rfl
  have x17 : p.cells[17]? = some (.int .i64 p.p2) := rfl
  have x18 : p.cells[18]? = some (.int .u64 p.gm) := rfl
  have x19 : p.cells[19]? = some (.int .i64 p.steps) := rfl
  have x20 : p.cells[20]? = some (.int .i64 p.src) := rfl
  have Xr := hide (fun (w' : World) (h : Blk w' w.heap.size 28 p.cells) => ann_range p h)
  have Xth0 : ∀ w' : World, (w'.alloc (.cells #[.int .i64 0, .int .i64 0, .int .i64 0, .int .i64 0, .int .i64 0, .int .i64 0, .int .u64 0, .int .i64 0, .int .i64 0] 26)).there w'.heap.size 0 p.ann.toArray.size := fun w' => there_blk (n := 9) (Blk.new w' 26 [.int .i64 0, .int .i64 0, .int .i64 0, .int .i64 0, .int .i64 0, .int .i64 0, .int .u64 0, .int .i64 0, .int .i64 0]) rfl
  have Xth := hide Xth0
  have Xput := hide (fun w' => ann_put p w')
  have one9 := ann_one p
  have hi9 : (Try.prog.info? 26).map (·.size) = some p.ann.length := info9
  have hi9' : (Try.prog.info? 26).map (·.size) = some p.ann.toArray.size := info9
  have y0 : p.ann[0]? = some (.int .i64 p.utc) := rfl
  have y1 : p.ann[1]? = some (.int .i64 p.p1) := rfl
  have y2 : p.ann[2]? = some (.int .i64 p.cls) := rfl
  have y3 : p.ann[3]? = some (.int .i64 p.acc) := rfl
  have y4 : p.ann[4]? = some (.int .i64 p.var) := rfl
  have y5 : p.ann[5]? = some (.int .i64 p.p2) := rfl
  have y6 : p.ann[6]? = some (.int .u64 p.gm) := rfl
  have y7 : p.ann[7]? = some (.int .i64 p.steps) := rfl
  have y8 : p.ann[8]? = some (.int .i64 p.src) := rfl
  clear Xth0
  generalize p.ann = ca at *
  generalize p.cells = cp at *
  have hm : (w.heap.size, 28, cp) ∈ [(w.heap.size, 28, cp)] := List.mem_cons_self
  go_enter Try.func15, Try.ntmps15
  go_wp2_with (refine wpList_load_mid rfl 28 _ rfl _ 0 rfl _ _ (range21 hN) Try.underlying28 rfl hi1 ?_)
  refine (HC.out _).mono ?_
  rintro e w1 ⟨rfl, hB1⟩
  have hN1 := hN.below' hB1
  have hW1 := below_step hW hB1 hW.size
  have hs1 : w.heap.size + 1 ≤ w1.heap.size := hN1.lt
  clear hN hW hB1
  go_upto_region 4 with (fail)
  go_cut [5] (fun t wr => ∃ bs, Hid (bs = low p.kind 1 ++ low 2 1 ++ low (sizeOfKind p.kind) 2) ∧ Enc w wr [(w.heap.size, 28, cp)] [] t bs 4)
  case first =>
    have E0 := first_enc (w0 := w) (w := w1.drew) (cp := cp) hN1 hW1.drew p.kind 2
    have c0 := (Blk.cell hN1 0).trans x0
    go_wp2
    go_region_held3 (fun w' => w'.cell? ⟨w.heap.size, 0, none⟩ = some (.int .i64 p.kind))
      (first | exact c0 | exact E0.cell hm x0 | exact E3.cell hm x0)
      (first
        | (go_at_call 12; refine (refSize_any _ _).mono ?_; rintro e w2 ⟨rfl, rfl⟩)
        | (go_at_call 30; (first | (refine (put_enc (w0 := w) ‹Enc w _ _ _ _ _ _› _ 2 (Or.inl (Nat.le_of_ble_eq_true rfl)) (Nat.le_of_ble_eq_true rfl)).mono ?_) | (refine (put_enc (w0 := w) (Enc.drew ‹Enc w _ _ _ _ _ _›) _ 2 (Or.inl (Nat.le_of_ble_eq_true rfl)) (Nat.le_of_ble_eq_true rfl)).mono ?_) | (refine (put_enc (w0 := w) (Enc.drew (Enc.push ‹Enc w _ _ _ _ _ _› _ _)) _ 2 (Or.inl (Nat.le_of_ble_eq_true rfl)) (Nat.le_of_ble_eq_true rfl)).mono ?_) | (refine (put_enc (w0 := w) (Enc.push ‹Enc w _ _ _ _ _ _› _ _) _ 2 (Or.inl (Nat.le_of_ble_eq_true rfl)) (Nat.le_of_ble_eq_true rfl)).mono ?_)); rintro e w3 ⟨A3, n3, c3, rfl, E3⟩))
    all_goals
      go_wp2_with fail
      go_meet
      exact ⟨_, rfl, E3⟩
  case rest =>
  obtain ⟨b4, Hb4, E⟩ := hcut
  obtain ⟨⟨A4, n4, c4, rfl, -⟩, -⟩ := id E
  obtain ⟨W4, hWW⟩ : ∃ W, W = wc := ⟨_, rfl⟩
  subst hWW
  go_upto_region 5 with (fail)
  go_cut [5] (fun t wr => ∃ bs, Hid (bs = b4 ++ (low p.dom 1 ++ low 0 1) ++ low p.flags 2) ∧ Enc w wr [(w.heap.size, 28, cp)] [] t bs 8)
  case first =>
    go_wp2
    go_region_held3 (fun w' => w'.cell? ⟨w.heap.size, 1, none⟩ = some (.int .i64 p.dom) ∧ w'.cell? ⟨w.heap.size, 2, none⟩ = some (.int .i64 p.flags))
      (first | exact ⟨Enc.cell ‹Enc w _ _ _ _ _ _› hm x1, Enc.cell ‹Enc w _ _ _ _ _ _› hm x2⟩ | exact ⟨Enc.cell (Enc.drew ‹Enc w _ _ _ _ _ _›) hm x1, Enc.cell (Enc.drew ‹Enc w _ _ _ _ _ _›) hm x2⟩ | exact ⟨Enc.cell (Enc.drew (Enc.push ‹Enc w _ _ _ _ _ _› _ _)) hm x1, Enc.cell (Enc.drew (Enc.push ‹Enc w _ _ _ _ _ _› _ _)) hm x2⟩ | exact ⟨Enc.cell (Enc.push ‹Enc w _ _ _ _ _ _› _ _) hm x1, Enc.cell (Enc.push ‹Enc w _ _ _ _ _ _› _ _) hm x2⟩)
      (first
        | ((first | (refine append_enc (w0 := w) (by rfl) (.tmp 22) (.tmp 26) rfl (by rfl) (by rfl) ‹Enc w _ _ _ _ _ _› (bytes2_low p.dom 0) rfl (Nat.le_refl _) (Nat.le_of_ble_eq_true rfl) (Nat.le_of_ble_eq_true rfl) ?_) | (refine append_enc (w0 := w) (by rfl) (.tmp 22) (.tmp 26) rfl (by rfl) (by rfl) (Enc.drew ‹Enc w _ _ _ _ _ _›) (bytes2_low p.dom 0) rfl (Nat.le_refl _) (Nat.le_of_ble_eq_true rfl) (Nat.le_of_ble_eq_true rfl) ?_) | (refine append_enc (w0 := w) (by rfl) (.tmp 22) (.tmp 26) rfl (by rfl) (by rfl) (Enc.drew (Enc.push ‹Enc w _ _ _ _ _ _› _ _)) (bytes2_low p.dom 0) rfl (Nat.le_refl _) (Nat.le_of_ble_eq_true rfl) (Nat.le_of_ble_eq_true rfl) ?_) | (refine append_enc (w0 := w) (by rfl) (.tmp 22) (.tmp 26) rfl (by rfl) (by rfl) (Enc.push ‹Enc w _ _ _ _ _ _› _ _) (bytes2_low p.dom 0) rfl (Nat.le_refl _) (Nat.le_of_ble_eq_true rfl) (Nat.le_of_ble_eq_true rfl) ?_)); intro A5 n5 c5 w5 E5)
        | (go_at_call 30; (first | (refine (put_enc (w0 := w) ‹Enc w _ _ _ _ _ _› _ 2 (Or.inl (Nat.le_of_ble_eq_true rfl)) (Nat.le_of_ble_eq_true rfl)).mono ?_) | (refine (put_enc (w0 := w) (Enc.drew ‹Enc w _ _ _ _ _ _›) _ 2 (Or.inl (Nat.le_of_ble_eq_true rfl)) (Nat.le_of_ble_eq_true rfl)).mono ?_) | (refine (put_enc (w0 := w) (Enc.drew (Enc.push ‹Enc w _ _ _ _ _ _› _ _)) _ 2 (Or.inl (Nat.le_of_ble_eq_true rfl)) (Nat.le_of_ble_eq_true rfl)).mono ?_) | (refine (put_enc (w0 := w) (Enc.push ‹Enc w _ _ _ _ _ _› _ _) _ 2 (Or.inl (Nat.le_of_ble_eq_true rfl)) (Nat.le_of_ble_eq_true rfl)).mono ?_)); rintro e w3 ⟨A3, n3, c3, rfl, E3⟩))
    all_goals
      go_wp2_with fail
      go_meet
      exact ⟨_, rfl, ‹Enc w _ _ _ _ _ _›⟩
  case rest =>
  obtain ⟨b5, Hb5, E⟩ := hcut
  obtain ⟨⟨A5, n5, c5, rfl, -⟩, -⟩ := id E
  obtain ⟨W5, hWW⟩ : ∃ W, W = wc := ⟨_, rfl⟩
  subst hWW
  have c3 := E.cell hm x3
  go_wp2_with fail
  refine (put_enc (w0 := w) E p.corr 8 (Or.inl (Nat.le_of_ble_eq_true rfl)) (Nat.le_of_ble_eq_true rfl)).mono ?_
  rintro e w2 ⟨A2, n2, c2, rfl, E2⟩
  go_wp2_with fail
  refine (put_enc (w0 := w) E2 0 4 (Or.inl (Nat.le_of_ble_eq_true rfl)) (Nat.le_of_ble_eq_true rfl)).mono ?_
  rintro e w3 ⟨A3, n3, c3, rfl, E3⟩
  clear E E2
  go_upto_region 7 with (fail)
  go_cut [5] (fun t wr => ∃ bs, Hid (bs = b5 ++ low p.corr 8 ++ low 0 4 ++ be p.clock.toNat 8 ++ low p.port 2 ++ low p.seq 2) ∧ Enc w wr [(w.heap.size, 28, cp)] [] t bs 32)
  case first =>
    go_wp2
    go_region_held3 (fun w' => w'.cell? ⟨w.heap.size, 4, none⟩ = some (.int .u64 p.clock) ∧ w'.cell? ⟨w.heap.size, 5, none⟩ = some (.int .i64 p.port) ∧ w'.cell? ⟨w.heap.size, 6, none⟩ = some (.int .i64 p.seq))
      (first | exact ⟨Enc.cell ‹Enc w _ _ _ _ _ _› hm x4, Enc.cell ‹Enc w _ _ _ _ _ _› hm x5, Enc.cell ‹Enc w _ _ _ _ _ _› hm x6⟩ | exact ⟨Enc.cell (Enc.drew ‹Enc w _ _ _ _ _ _›) hm x4, Enc.cell (Enc.drew ‹Enc w _ _ _ _ _ _›) hm x5, Enc.cell (Enc.drew ‹Enc w _ _ _ _ _ _›) hm x6⟩ | exact ⟨Enc.cell (Enc.drew (Enc.push ‹Enc w _ _ _ _ _ _› _ _)) hm x4, Enc.cell (Enc.drew (Enc.push ‹Enc w _ _ _ _ _ _› _ _)) hm x5, Enc.cell (Enc.drew (Enc.push ‹Enc w _ _ _ _ _ _› _ _)) hm x6⟩ | exact ⟨Enc.cell (Enc.push ‹Enc w _ _ _ _ _ _› _ _) hm x4, Enc.cell (Enc.push ‹Enc w _ _ _ _ _ _› _ _) hm x5, Enc.cell (Enc.push ‹Enc w _ _ _ _ _ _› _ _) hm x6⟩)
      (first
        | (go_at_call 31; (first | (refine (clock_enc (w0 := w) ‹Enc w _ _ _ _ _ _› _ Hin.out.clock (Nat.le_of_ble_eq_true rfl)).mono ?_) | (refine (clock_enc (w0 := w) (Enc.drew ‹Enc w _ _ _ _ _ _›) _ Hin.out.clock (Nat.le_of_ble_eq_true rfl)).mono ?_) | (refine (clock_enc (w0 := w) (Enc.drew (Enc.push ‹Enc w _ _ _ _ _ _› _ _)) _ Hin.out.clock (Nat.le_of_ble_eq_true rfl)).mono ?_) | (refine (clock_enc (w0 := w) (Enc.push ‹Enc w _ _ _ _ _ _› _ _) _ Hin.out.clock (Nat.le_of_ble_eq_true rfl)).mono ?_)); rintro e w4 ⟨A4, n4, c4, rfl, E4⟩)
        | (go_at_call 30; (first | (refine (put_enc (w0 := w) ‹Enc w _ _ _ _ _ _› _ 2 (Or.inl (Nat.le_of_ble_eq_true rfl)) (Nat.le_of_ble_eq_true rfl)).mono ?_) | (refine (put_enc (w0 := w) (Enc.drew ‹Enc w _ _ _ _ _ _›) _ 2 (Or.inl (Nat.le_of_ble_eq_true rfl)) (Nat.le_of_ble_eq_true rfl)).mono ?_) | (refine (put_enc (w0 := w) (Enc.drew (Enc.push ‹Enc w _ _ _ _ _ _› _ _)) _ 2 (Or.inl (Nat.le_of_ble_eq_true rfl)) (Nat.le_of_ble_eq_true rfl)).mono ?_) | (refine (put_enc (w0 := w) (Enc.push ‹Enc w _ _ _ _ _ _› _ _) _ 2 (Or.inl (Nat.le_of_ble_eq_true rfl)) (Nat.le_of_ble_eq_true rfl)).mono ?_)); rintro e w3 ⟨A3, n3, c3, rfl, E3⟩))
    all_goals
      go_wp2_with fail
      go_meet
      exact ⟨_, rfl, ‹Enc w _ _ _ _ _ _›⟩
  case rest =>
  obtain ⟨b7, Hb7, E⟩ := hcut
  obtain ⟨⟨A7, n7, c7, rfl, -⟩, -⟩ := id E
  obtain ⟨W7, hWW⟩ : ∃ W, W = wc := ⟨_, rfl⟩
  subst hWW
  go_upto_region 8 with (fail)
  go_cut [5] (fun t wr => ∃ bs, Hid (bs = b7 ++ (low (controlOf p.kind) 1 ++ low p.logi 1)) ∧ Enc w wr [(w.heap.size, 28, cp)] [] t bs 34)
  case first =>
    go_wp2
    go_region_held3 (fun w' => w'.cell? ⟨w.heap.size, 0, none⟩ = some (.int .i64 p.kind) ∧ w'.cell? ⟨w.heap.size, 7, none⟩ = some (.int .i64 p.logi))
      (first | exact ⟨Enc.cell ‹Enc w _ _ _ _ _ _› hm x0, Enc.cell ‹Enc w _ _ _ _ _ _› hm x7⟩ | exact ⟨Enc.cell (Enc.drew ‹Enc w _ _ _ _ _ _›) hm x0, Enc.cell (Enc.drew ‹Enc w _ _ _ _ _ _›) hm x7⟩ | exact ⟨Enc.cell (Enc.drew (Enc.push ‹Enc w _ _ _ _ _ _› _ _)) hm x0, Enc.cell (Enc.drew (Enc.push ‹Enc w _ _ _ _ _ _› _ _)) hm x7⟩ | exact ⟨Enc.cell (Enc.push ‹Enc w _ _ _ _ _ _› _ _) hm x0, Enc.cell (Enc.push ‹Enc w _ _ _ _ _ _› _ _) hm x7⟩)
      (first
        | (go_at_call 32; refine (refControl_any _ _).mono ?_; rintro e w2 ⟨rfl, rfl⟩)
        | ((first | (refine append_enc (w0 := w) (by rfl) (.tmp 46) (.tmp 54) rfl (by rfl) (by rfl) ‹Enc w _ _ _ _ _ _› (bytes2_low (controlOf p.kind) p.logi) rfl (Nat.le_refl _) (Nat.le_of_ble_eq_true rfl) (Nat.le_of_ble_eq_true rfl) ?_) | (refine append_enc (w0 := w) (by rfl) (.tmp 46) (.tmp 54) rfl (by rfl) (by rfl) (Enc.drew ‹Enc w _ _ _ _ _ _›) (bytes2_low (controlOf p.kind) p.logi) rfl (Nat.le_refl _) (Nat.le_of_ble_eq_true rfl) (Nat.le_of_ble_eq_true rfl) ?_) | (refine append_enc (w0 := w) (by rfl) (.tmp 46) (.tmp 54) rfl (by rfl) (by rfl) (Enc.drew (Enc.push ‹Enc w _ _ _ _ _ _› _ _)) (bytes2_low (controlOf p.kind) p.logi) rfl (Nat.le_refl _) (Nat.le_of_ble_eq_true rfl) (Nat.le_of_ble_eq_true rfl) ?_) | (refine append_enc (w0 := w) (by rfl) (.tmp 46) (.tmp 54) rfl (by rfl) (by rfl) (Enc.push ‹Enc w _ _ _ _ _ _› _ _) (bytes2_low (controlOf p.kind) p.logi) rfl (Nat.le_refl _) (Nat.le_of_ble_eq_true rfl) (Nat.le_of_ble_eq_true rfl) ?_)); intro A5 n5 c5 w5 E5))
    all_goals
      go_wp2_with fail
      go_meet
      exact ⟨_, rfl, ‹Enc w _ _ _ _ _ _›⟩
  case rest =>
  obtain ⟨b8, Hb8, E⟩ := hcut
  obtain ⟨⟨A8, n8, c8, rfl, -⟩, -⟩ := id E
  obtain ⟨W8, hWW⟩ : ∃ W, W = wc := ⟨_, rfl⟩
  subst hWW
  have c8 := E.cell hm x8
  have c9 := E.cell hm x9
  have hsl : (stampBytes p.sec p.nano).length = 10 := by simp [stampBytes, be_length]
  go_wp2_with fail
  refine (HT.out _).mono ?_
  rintro e w9 ⟨A9, n9, c9', rfl, ho9, hB9⟩
  have E9 := E.below hB9
  obtain rfl : n9 = 10 := by have := ho9.len; omega
  have c0 := E9.cell hm x0
  clear E c8 c9
  go_upto_region 11 with (refine append_encL (w0 := w) rfl (.tmp 62) (.tmp 63) rfl rfl rfl E9 ho9.rb (Nat.le_of_ble_eq_true rfl) ?_; clear c0; intro A10 n10 c10 w10 E10; clear E9; have c0 := E10.cell hm x0)
  obtain ⟨b10, Hb10⟩ : ∃ b, Hid (b = b8 ++ stampBytes p.sec p.nano) := ⟨_, rfl⟩
  rw [← Hb10.out] at E10
  clear ho9 hB9 hsl
  rcases kinds (ptp_ok Hh.out).1 with ⟨hq, h54, h2, h11⟩ | ⟨hq, h54, h2⟩ | ⟨hq, h64, h11⟩ | ⟨hq, h44, h2, h11⟩
  · have hk2 : (p.kind == 2) = false := by simpa using h2
    have hk11 : (p.kind == 11) = false := by simpa using h11
    go_upto_region 12 with ((go_at_call 24; refine (refReq_any _ _).mono ?_; rintro e w2 ⟨rfl, rfl⟩; rw [hq]))
    go_cut [5] (fun t wr => ∃ bs, Hid (bs = b10 ++ be p.rclock.toNat 8 ++ low p.rport 2) ∧ Enc w wr [(w.heap.size, 28, cp)] [] t bs 54)
    case first =>
      go_wp2
      go_region_held3 (fun w' => w'.cell? ⟨w.heap.size, 10, none⟩ = some (.int .u64 p.rclock) ∧ w'.cell? ⟨w.heap.size, 11, none⟩ = some (.int .i64 p.rport))
        (first | exact ⟨Enc.cell ‹Enc w _ _ _ _ _ _› hm x10, Enc.cell ‹Enc w _ _ _ _ _ _› hm x11⟩ | exact ⟨Enc.cell (Enc.drew ‹Enc w _ _ _ _ _ _›) hm x10, Enc.cell (Enc.drew ‹Enc w _ _ _ _ _ _›) hm x11⟩ | exact ⟨Enc.cell (Enc.drew (Enc.push ‹Enc w _ _ _ _ _ _› _ _)) hm x10, Enc.cell (Enc.drew (Enc.push ‹Enc w _ _ _ _ _ _› _ _)) hm x11⟩ | exact ⟨Enc.cell (Enc.push ‹Enc w _ _ _ _ _ _› _ _) hm x10, Enc.cell (Enc.push ‹Enc w _ _ _ _ _ _› _ _) hm x11⟩)
        (first
          | (go_at_call 31; (first | (refine (clock_enc (w0 := w) ‹Enc w _ _ _ _ _ _› _ Hin.out.rclock (Nat.le_of_ble_eq_true rfl)).mono ?_) | (refine (clock_enc (w0 := w) (Enc.drew ‹Enc w _ _ _ _ _ _›) _ Hin.out.rclock (Nat.le_of_ble_eq_true rfl)).mono ?_) | (refine (clock_enc (w0 := w) (Enc.drew (Enc.push ‹Enc w _ _ _ _ _ _› _ _)) _ Hin.out.rclock (Nat.le_of_ble_eq_true rfl)).mono ?_) | (refine (clock_enc (w0 := w) (Enc.push ‹Enc w _ _ _ _ _ _› _ _) _ Hin.out.rclock (Nat.le_of_ble_eq_true rfl)).mono ?_)); rintro e w4 ⟨A4, n4, c4, rfl, E4⟩)
          | (go_at_call 30; (first | (refine (put_enc (w0 := w) ‹Enc w _ _ _ _ _ _› _ 2 (Or.inl (Nat.le_of_ble_eq_true rfl)) (Nat.le_of_ble_eq_true rfl)).mono ?_) | (refine (put_enc (w0 := w) (Enc.drew ‹Enc w _ _ _ _ _ _›) _ 2 (Or.inl (Nat.le_of_ble_eq_true rfl)) (Nat.le_of_ble_eq_true rfl)).mono ?_) | (refine (put_enc (w0 := w) (Enc.drew (Enc.push ‹Enc w _ _ _ _ _ _› _ _)) _ 2 (Or.inl (Nat.le_of_ble_eq_true rfl)) (Nat.le_of_ble_eq_true rfl)).mono ?_) | (refine (put_enc (w0 := w) (Enc.push ‹Enc w _ _ _ _ _ _› _ _) _ 2 (Or.inl (Nat.le_of_ble_eq_true rfl)) (Nat.le_of_ble_eq_true rfl)).mono ?_)); rintro e w3 ⟨A3, n3, c3, rfl, E3⟩))
      all_goals
        go_wp2_with fail
        go_meet
        exact ⟨_, rfl, ‹Enc w _ _ _ _ _ _›⟩
    case rest =>
    obtain ⟨b12, Hb12, E⟩ := hcut
    obtain ⟨⟨A12, n12, c12, rfl, -⟩, -⟩ := id E
    obtain ⟨W12, hWW⟩ : ∃ W, W = wc := ⟨_, rfl⟩
    subst hWW
    have c0 := E.cell hm x0
    go_wp2_with fail
    go_ret2
    exact ⟨_, _, _, rfl, E.own.cast (by rw [Hb12.out, Hb10.out, Hb8.out, Hb7.out, Hb5.out, Hb4.out, HBT.out]; exact bytes_req p Hin.out hq), E.low⟩
  · have hk2 : (p.kind == 2) = true := by simpa using h2
    have hk11 : (p.kind == 11) = false := by rw [h2]; rfl
    have H2 := hide h2
    clear h2
    go_upto_region 14 with ((go_at_call 24; refine (refReq_any _ _).mono ?_; rintro e w2 ⟨rfl, rfl⟩; rw [hq]))
    go_wp2_with fail
    refine (put_enc (w0 := w) E10 0 10 (Or.inr ⟨rfl, Nat.le_of_ble_eq_true rfl⟩) (Nat.le_of_ble_eq_true rfl)).mono ?_
    rintro e w3 ⟨A3, n3, c3, rfl, E⟩
    clear E10 c0
    have c0 := E.cell hm x0
    go_wp2_with fail
    go_ret2
    exact ⟨_, _, _, rfl, E.own.cast (by rw [Hb10.out, Hb8.out, Hb7.out, Hb5.out, Hb4.out, HBT.out]; exact bytes_pdel p Hin.out H2.out), E.low⟩
  · have hk2 : (p.kind == 2) = false := by simpa using (show p.kind ≠ 2 by omega)
    have hk11 : (p.kind == 11) = true := by simpa using h11
    have H11 := hide h11
    clear h11 h64
    go_upto_region 16 with ((go_at_call 24; refine (refReq_any _ _).mono ?_; rintro e w2 ⟨rfl, rfl⟩; rw [hq]))
    have hra := Xr.out w10 (E10.blk hm)
    have hth : (w10.alloc (.cells #[.int .i64 0, .int .i64 0, .int .i64 0, .int .i64 0, .int .i64 0, .int .i64 0, .int .u64 0, .int .i64 0, .int .i64 0] 26)).there w10.heap.size 0 ca.toArray.size := Xth.out w10
    have hPa := Xput.out w10
    have hgen := hide (E10.addk hPa.2 hPa.1)
    clear E10 c0 hPa
    go_wp2_with (first
      | (refine wpList_load_mid rfl 26 _ rfl _ 12 rfl _ _ hra Try.underlying26 rfl hi9 ?_)
      | (refine wpList_store_mid rfl 26 _ _ rfl w10.heap.size 0 ca.toArray rfl rfl hth hi9' one9 ?_; refine wpList_gen (fun W => Enc w W [(w10.heap.size, 26, ca), (w.heap.size, 28, cp)] [] (.slice A10 n10 c10) b10 44) hgen.out ?_; rintro W16 E16; clear hra hth hgen))
    have hma : (w10.heap.size, 26, ca) ∈ [(w10.heap.size, 26, ca), (w.heap.size, 28, cp)] := List.mem_cons_self
    simp only [Act.put]
    go_upto_region 17 with (fail)
    go_cut [5] (fun t wr => ∃ bs, Hid (bs = b10 ++ low p.utc 2 ++ (low 0 1 ++ low p.p1 1 ++ low p.cls 1 ++ low p.acc 1)) ∧ Enc w wr [(w10.heap.size, 26, ca), (w.heap.size, 28, cp)] [] t bs 50)
    case first =>
      go_wp2
      go_region_held3 (fun w' => w'.cell? ⟨w10.heap.size, 0, none⟩ = some (.int .i64 p.utc) ∧ w'.cell? ⟨w10.heap.size, 1, none⟩ = some (.int .i64 p.p1) ∧ w'.cell? ⟨w10.heap.size, 2, none⟩ = some (.int .i64 p.cls) ∧ w'.cell? ⟨w10.heap.size, 3, none⟩ = some (.int .i64 p.acc))
        (first | exact ⟨Enc.cell ‹Enc w _ _ _ _ _ _› hma y0, Enc.cell ‹Enc w _ _ _ _ _ _› hma y1, Enc.cell ‹Enc w _ _ _ _ _ _› hma y2, Enc.cell ‹Enc w _ _ _ _ _ _› hma y3⟩ | exact ⟨Enc.cell (Enc.drew ‹Enc w _ _ _ _ _ _›) hma y0, Enc.cell (Enc.drew ‹Enc w _ _ _ _ _ _›) hma y1, Enc.cell (Enc.drew ‹Enc w _ _ _ _ _ _›) hma y2, Enc.cell (Enc.drew ‹Enc w _ _ _ _ _ _›) hma y3⟩ | exact ⟨Enc.cell (Enc.drew (Enc.push ‹Enc w _ _ _ _ _ _› _ _)) hma y0, Enc.cell (Enc.drew (Enc.push ‹Enc w _ _ _ _ _ _› _ _)) hma y1, Enc.cell (Enc.drew (Enc.push ‹Enc w _ _ _ _ _ _› _ _)) hma y2, Enc.cell (Enc.drew (Enc.push ‹Enc w _ _ _ _ _ _› _ _)) hma y3⟩ | exact ⟨Enc.cell (Enc.push ‹Enc w _ _ _ _ _ _› _ _) hma y0, Enc.cell (Enc.push ‹Enc w _ _ _ _ _ _› _ _) hma y1, Enc.cell (Enc.push ‹Enc w _ _ _ _ _ _› _ _) hma y2, Enc.cell (Enc.push ‹Enc w _ _ _ _ _ _› _ _) hma y3⟩)
        (first
          | (go_at_call 30; (first | (refine (put_enc (w0 := w) ‹Enc w _ _ _ _ _ _› _ 2 (Or.inl (Nat.le_of_ble_eq_true rfl)) (Nat.le_of_ble_eq_true rfl)).mono ?_) | (refine (put_enc (w0 := w) (Enc.drew ‹Enc w _ _ _ _ _ _›) _ 2 (Or.inl (Nat.le_of_ble_eq_true rfl)) (Nat.le_of_ble_eq_true rfl)).mono ?_) | (refine (put_enc (w0 := w) (Enc.drew (Enc.push ‹Enc w _ _ _ _ _ _› _ _)) _ 2 (Or.inl (Nat.le_of_ble_eq_true rfl)) (Nat.le_of_ble_eq_true rfl)).mono ?_) | (refine (put_enc (w0 := w) (Enc.push ‹Enc w _ _ _ _ _ _› _ _) _ 2 (Or.inl (Nat.le_of_ble_eq_true rfl)) (Nat.le_of_ble_eq_true rfl)).mono ?_)); rintro e w3 ⟨A3, n3, c3, rfl, E3⟩)
          | ((first | (refine append_enc (w0 := w) (by rfl) (.tmp 88) (.tmp 98) rfl (by rfl) (by rfl) ‹Enc w _ _ _ _ _ _› (bytes4_low 0 p.p1 p.cls p.acc) rfl (Nat.le_refl _) (Nat.le_of_ble_eq_true rfl) (Nat.le_of_ble_eq_true rfl) ?_) | (refine append_enc (w0 := w) (by rfl) (.tmp 88) (.tmp 98) rfl (by rfl) (by rfl) (Enc.drew ‹Enc w _ _ _ _ _ _›) (bytes4_low 0 p.p1 p.cls p.acc) rfl (Nat.le_refl _) (Nat.le_of_ble_eq_true rfl) (Nat.le_of_ble_eq_true rfl) ?_) | (refine append_enc (w0 := w) (by rfl) (.tmp 88) (.tmp 98) rfl (by rfl) (by rfl) (Enc.drew (Enc.push ‹Enc w _ _ _ _ _ _› _ _)) (bytes4_low 0 p.p1 p.cls p.acc) rfl (Nat.le_refl _) (Nat.le_of_ble_eq_true rfl) (Nat.le_of_ble_eq_true rfl) ?_) | (refine append_enc (w0 := w) (by rfl) (.tmp 88) (.tmp 98) rfl (by rfl) (by rfl) (Enc.push ‹Enc w _ _ _ _ _ _› _ _) (bytes4_low 0 p.p1 p.cls p.acc) rfl (Nat.le_refl _) (Nat.le_of_ble_eq_true rfl) (Nat.le_of_ble_eq_true rfl) ?_)); intro A5 n5 c5 w5 E5))
      all_goals
        go_wp2_with fail
        go_meet
        exact ⟨_, rfl, ‹Enc w _ _ _ _ _ _›⟩
    case rest =>
    obtain ⟨b17, Hb17, E⟩ := hcut
    obtain ⟨⟨A17, n17, c17, rfl, -⟩, -⟩ := id E
    obtain ⟨W17, hWW⟩ : ∃ W, W = wc := ⟨_, rfl⟩
    subst hWW
    go_upto_region 18 with (fail)
    go_cut [5] (fun t wr => ∃ bs, Hid (bs = b17 ++ low p.var 2 ++ low p.p2 1) ∧ Enc w wr [(w10.heap.size, 26, ca), (w.heap.size, 28, cp)] [] t bs 53)
    case first =>
      go_wp2
      go_region_held3 (fun w' => w'.cell? ⟨w10.heap.size, 4, none⟩ = some (.int .i64 p.var) ∧ w'.cell? ⟨w10.heap.size, 5, none⟩ = some (.int .i64 p.p2))
        (first | exact ⟨Enc.cell ‹Enc w _ _ _ _ _ _› hma y4, Enc.cell ‹Enc w _ _ _ _ _ _› hma y5⟩ | exact ⟨Enc.cell (Enc.drew ‹Enc w _ _ _ _ _ _›) hma y4, Enc.cell (Enc.drew ‹Enc w _ _ _ _ _ _›) hma y5⟩ | exact ⟨Enc.cell (Enc.drew (Enc.push ‹Enc w _ _ _ _ _ _› _ _)) hma y4, Enc.cell (Enc.drew (Enc.push ‹Enc w _ _ _ _ _ _› _ _)) hma y5⟩ | exact ⟨Enc.cell (Enc.push ‹Enc w _ _ _ _ _ _› _ _) hma y4, Enc.cell (Enc.push ‹Enc w _ _ _ _ _ _› _ _) hma y5⟩)
        (first
          | (go_at_call 30; (first | (refine (put_enc (w0 := w) ‹Enc w _ _ _ _ _ _› _ 2 (Or.inl (Nat.le_of_ble_eq_true rfl)) (Nat.le_of_ble_eq_true rfl)).mono ?_) | (refine (put_enc (w0 := w) (Enc.drew ‹Enc w _ _ _ _ _ _›) _ 2 (Or.inl (Nat.le_of_ble_eq_true rfl)) (Nat.le_of_ble_eq_true rfl)).mono ?_) | (refine (put_enc (w0 := w) (Enc.drew (Enc.push ‹Enc w _ _ _ _ _ _› _ _)) _ 2 (Or.inl (Nat.le_of_ble_eq_true rfl)) (Nat.le_of_ble_eq_true rfl)).mono ?_) | (refine (put_enc (w0 := w) (Enc.push ‹Enc w _ _ _ _ _ _› _ _) _ 2 (Or.inl (Nat.le_of_ble_eq_true rfl)) (Nat.le_of_ble_eq_true rfl)).mono ?_)); rintro e w3 ⟨A3, n3, c3, rfl, E3⟩)
          | ((first | (refine append_enc (w0 := w) (by rfl) (.tmp 103) (.tmp 107) rfl (by rfl) (by rfl) ‹Enc w _ _ _ _ _ _› (byte_low p.p2) rfl (Nat.le_refl _) (Nat.le_of_ble_eq_true rfl) (Nat.le_of_ble_eq_true rfl) ?_) | (refine append_enc (w0 := w) (by rfl) (.tmp 103) (.tmp 107) rfl (by rfl) (by rfl) (Enc.drew ‹Enc w _ _ _ _ _ _›) (byte_low p.p2) rfl (Nat.le_refl _) (Nat.le_of_ble_eq_true rfl) (Nat.le_of_ble_eq_true rfl) ?_) | (refine append_enc (w0 := w) (by rfl) (.tmp 103) (.tmp 107) rfl (by rfl) (by rfl) (Enc.drew (Enc.push ‹Enc w _ _ _ _ _ _› _ _)) (byte_low p.p2) rfl (Nat.le_refl _) (Nat.le_of_ble_eq_true rfl) (Nat.le_of_ble_eq_true rfl) ?_) | (refine append_enc (w0 := w) (by rfl) (.tmp 103) (.tmp 107) rfl (by rfl) (by rfl) (Enc.push ‹Enc w _ _ _ _ _ _› _ _) (byte_low p.p2) rfl (Nat.le_refl _) (Nat.le_of_ble_eq_true rfl) (Nat.le_of_ble_eq_true rfl) ?_)); intro A5 n5 c5 w5 E5))
      all_goals
        go_wp2_with fail
        go_meet
        exact ⟨_, rfl, ‹Enc w _ _ _ _ _ _›⟩
    case rest =>
    obtain ⟨b18, Hb18, E⟩ := hcut
    obtain ⟨⟨A18, n18, c18, rfl, -⟩, -⟩ := id E
    obtain ⟨W18, hWW⟩ : ∃ W, W = wc := ⟨_, rfl⟩
    subst hWW
    go_upto_region 19 with (fail)
    go_cut [5] (fun t wr => ∃ bs, Hid (bs = b18 ++ be p.gm.toNat 8 ++ low p.steps 2 ++ low p.src 1) ∧ Enc w wr [(w10.heap.size, 26, ca), (w.heap.size, 28, cp)] [] t bs 64)
    case first =>
      go_wp2
      go_region_held3 (fun w' => w'.cell? ⟨w10.heap.size, 6, none⟩ = some (.int .u64 p.gm) ∧ w'.cell? ⟨w10.heap.size, 7, none⟩ = some (.int .i64 p.steps) ∧ w'.cell? ⟨w10.heap.size, 8, none⟩ = some (.int .i64 p.src))
        (first | exact ⟨Enc.cell ‹Enc w _ _ _ _ _ _› hma y6, Enc.cell ‹Enc w _ _ _ _ _ _› hma y7, Enc.cell ‹Enc w _ _ _ _ _ _› hma y8⟩ | exact ⟨Enc.cell (Enc.drew ‹Enc w _ _ _ _ _ _›) hma y6, Enc.cell (Enc.drew ‹Enc w _ _ _ _ _ _›) hma y7, Enc.cell (Enc.drew ‹Enc w _ _ _ _ _ _›) hma y8⟩ | exact ⟨Enc.cell (Enc.drew (Enc.push ‹Enc w _ _ _ _ _ _› _ _)) hma y6, Enc.cell (Enc.drew (Enc.push ‹Enc w _ _ _ _ _ _› _ _)) hma y7, Enc.cell (Enc.drew (Enc.push ‹Enc w _ _ _ _ _ _› _ _)) hma y8⟩ | exact ⟨Enc.cell (Enc.push ‹Enc w _ _ _ _ _ _› _ _) hma y6, Enc.cell (Enc.push ‹Enc w _ _ _ _ _ _› _ _) hma y7, Enc.cell (Enc.push ‹Enc w _ _ _ _ _ _› _ _) hma y8⟩)
        (first
          | (go_at_call 31; (first | (refine (clock_enc (w0 := w) ‹Enc w _ _ _ _ _ _› _ Hin.out.gm (Nat.le_of_ble_eq_true rfl)).mono ?_) | (refine (clock_enc (w0 := w) (Enc.drew ‹Enc w _ _ _ _ _ _›) _ Hin.out.gm (Nat.le_of_ble_eq_true rfl)).mono ?_) | (refine (clock_enc (w0 := w) (Enc.drew (Enc.push ‹Enc w _ _ _ _ _ _› _ _)) _ Hin.out.gm (Nat.le_of_ble_eq_true rfl)).mono ?_) | (refine (clock_enc (w0 := w) (Enc.push ‹Enc w _ _ _ _ _ _› _ _) _ Hin.out.gm (Nat.le_of_ble_eq_true rfl)).mono ?_)); rintro e w4 ⟨A4, n4, c4, rfl, E4⟩)
          | (go_at_call 30; (first | (refine (put_enc (w0 := w) ‹Enc w _ _ _ _ _ _› _ 2 (Or.inl (Nat.le_of_ble_eq_true rfl)) (Nat.le_of_ble_eq_true rfl)).mono ?_) | (refine (put_enc (w0 := w) (Enc.drew ‹Enc w _ _ _ _ _ _›) _ 2 (Or.inl (Nat.le_of_ble_eq_true rfl)) (Nat.le_of_ble_eq_true rfl)).mono ?_) | (refine (put_enc (w0 := w) (Enc.drew (Enc.push ‹Enc w _ _ _ _ _ _› _ _)) _ 2 (Or.inl (Nat.le_of_ble_eq_true rfl)) (Nat.le_of_ble_eq_true rfl)).mono ?_) | (refine (put_enc (w0 := w) (Enc.push ‹Enc w _ _ _ _ _ _› _ _) _ 2 (Or.inl (Nat.le_of_ble_eq_true rfl)) (Nat.le_of_ble_eq_true rfl)).mono ?_)); rintro e w3 ⟨A3, n3, c3, rfl, E3⟩)
          | ((first | (refine append_enc (w0 := w) (by rfl) (.tmp 115) (.tmp 119) rfl (by rfl) (by rfl) ‹Enc w _ _ _ _ _ _› (byte_low p.src) rfl (Nat.le_refl _) (Nat.le_of_ble_eq_true rfl) (Nat.le_of_ble_eq_true rfl) ?_) | (refine append_enc (w0 := w) (by rfl) (.tmp 115) (.tmp 119) rfl (by rfl) (by rfl) (Enc.drew ‹Enc w _ _ _ _ _ _›) (byte_low p.src) rfl (Nat.le_refl _) (Nat.le_of_ble_eq_true rfl) (Nat.le_of_ble_eq_true rfl) ?_) | (refine append_enc (w0 := w) (by rfl) (.tmp 115) (.tmp 119) rfl (by rfl) (by rfl) (Enc.drew (Enc.push ‹Enc w _ _ _ _ _ _› _ _)) (byte_low p.src) rfl (Nat.le_refl _) (Nat.le_of_ble_eq_true rfl) (Nat.le_of_ble_eq_true rfl) ?_) | (refine append_enc (w0 := w) (by rfl) (.tmp 115) (.tmp 119) rfl (by rfl) (by rfl) (Enc.push ‹Enc w _ _ _ _ _ _› _ _) (byte_low p.src) rfl (Nat.le_refl _) (Nat.le_of_ble_eq_true rfl) (Nat.le_of_ble_eq_true rfl) ?_)); intro A5 n5 c5 w5 E5))
      all_goals
        go_wp2_with fail
        go_meet
        exact ⟨_, rfl, ‹Enc w _ _ _ _ _ _›⟩
    case rest =>
    obtain ⟨b19, Hb19, E⟩ := hcut
    obtain ⟨⟨A19, n19, c19, rfl, -⟩, -⟩ := id E
    obtain ⟨W19, hWW⟩ : ∃ W, W = wc := ⟨_, rfl⟩
    subst hWW
    go_wp2_with fail
    go_ret2
    exact ⟨_, _, _, rfl, E.own.cast (by rw [Hb19.out, Hb18.out, Hb17.out, Hb10.out, Hb8.out, Hb7.out, Hb5.out, Hb4.out, HBT.out]; exact bytes_ann p Hin.out H11.out), E.low⟩
  · have hk2 : (p.kind == 2) = false := by simpa using h2
    have hk11 : (p.kind == 11) = false := by simpa using h11
    go_wp2_with ((go_at_call 24; refine (refReq_any _ _).mono ?_; rintro e w2 ⟨rfl, rfl⟩; rw [hq]))
    go_ret2
    exact ⟨_, _, _, rfl, E10.own.cast (by rw [Hb10.out, Hb8.out, Hb7.out, Hb5.out, Hb4.out, HBT.out]; exact bytes_no p Hin.out hq h2 h11), E10.low⟩
end Go.Proofs.Ytlobddhpkemklaa
