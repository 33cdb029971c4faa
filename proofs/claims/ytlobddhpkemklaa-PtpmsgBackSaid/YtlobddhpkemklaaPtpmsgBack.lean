/- PtpmsgBack: a message is read back from its bytes, and from no other number of them.
  SEATS: ptp -/
import Derived.Test.YtlobddhpkemklaaPtpmsgCanonical
import Derived.Test.YtlobddhpkemklaaStampD
namespace Go.Proofs.Ytlobddhpkemklaa
open Go.RowKit
set_option linter.unusedVariables false

theorem rb_sub {w : World} {A : Option Addr} {m c : Nat} {r : List UInt8} (h : RB w A m c r) (a k : Nat) (hk : a + k ≤ m) (A' : Option Addr) (c' : Nat) (hA : 0 < k → ∀ b o, A = some ⟨b, o, none⟩ → A' = some ⟨b, o + a, none⟩) (hc : k ≤ c') (hc' : c' ≤ c) : RB w A' k c' (sub r a k) := by
  have hl := h.len
  have hm := h.max
  refine ⟨sub_length r a k (by omega), hc, by omega, fun hp => ?_⟩
  obtain ⟨b, o, rfl, hlt, hcell⟩ := h.cells (by omega)
  refine ⟨b, o + a, hA hp b o rfl, hlt, fun j u hu => ?_⟩
  rw [Nat.add_assoc]
  refine hcell (a + j) u ?_
  have hj : j < k := by
    have := (List.getElem?_eq_some_iff.1 hu).1
    rwa [BV_length, sub_length r a k (by omega)] at this
  rw [← hu, BV_get, BV_get, sub, List.getElem?_take, if_pos hj, List.getElem?_drop]

theorem num_sub (bs : List UInt8) (a n p k : Nat) (h : p + k ≤ n) : num (sub bs a n) p k = num bs (a + p) k := by
  unfold num sub
  rw [List.drop_take, List.take_take, List.drop_drop, Nat.min_eq_left (by omega)]

theorem info2 : (Try.prog.info? 24).map (·.size) = some 2 := by kernel_rfl
theorem there_blk {w : World} {g t n : Nat} {cs : List Value} (h : Blk w g t cs) (hl : n = cs.length) : w.there g 0 n := fun j hj => ⟨by rw [Nat.zero_add, h.cell, List.getElem?_eq_getElem (by omega)]; rfl, h.frozen _⟩
theorem rb_lit (w : World) (bs : List UInt8) (h : bs.length ≤ 1000 := by simp) : RB (w.alloc (.cells (BV bs).toArray 5)) (some ⟨w.heap.size, 0, none⟩) bs.length bs.length bs := (Blk.new w 5 (BV bs)).rb rfl (Nat.le_refl _) (by omega)

set_option maxHeartbeats 4000000 in
theorem ptpmsgBack_any (p : Ptp) (k : Int) (w : World) (hp : p.In) (hk : 0 ≤ k ∧ k ≤ 255) :
    Calls Try.prog 8 #[p.val, .int .u8 k] w fun e w' => e = .returned (.bool true) ∧ Below w.heap.size w w' := by
  have hP : p.val = .agg p.cells.toArray := rfl
  have hi1 := info21' p
  have hN := Blk.new w 28 p.cells
  have hW := (Below.refl w.heap.size w).alloc (Nat.le_refl _) (.cells p.cells.toArray 28)
  by_cases hc : ptpCheck p = 0
  · have v := valid_of hc
    have hlz := ptp_length v
    have hl44 : 44 ≤ (ptpBytes p).length := by
      have : 44 ≤ sizeOfKind p.kind := by rcases kinds v.size with h | h | h | h <;> omega
      omega
    have hl64 : (ptpBytes p).length ≤ 64 := by
      have : sizeOfKind p.kind ≤ 64 := by rcases kinds v.size with h | h | h | h <;> omega
      omega
    have hst := v.stamp
    have HE := hide (fun w => ptpEncode_ok p w hp hc)
    have HS := hide (fun w => size_any p.kind w hp.kind)
    have HD := hide (fun A n c w (h : RB w A n c (ptpBytes p)) => ptpDecode_any A n c (ptpBytes p) w h (by have := h.len; omega))
    have HT := hide (fun A c w (h : RB w A 10 c (sub (ptpBytes p) 34 10)) => stampDecode_ok A c _ w h (by
      rw [num_sub _ 34 10 0 6 (by omega), num_sub _ 34 10 6 4 (by omega)]
      have e : ptpOf (ptpBytes p) = p := ptp_of hc hp
      have e8 : ((num (ptpBytes p) 34 6 : Nat) : Int) = p.sec := congrArg Ptp.sec e
      have e9 : ((num (ptpBytes p) 40 4 : Nat) : Int) = p.nano := congrArg Ptp.nano e
      rw [e8, e9]
      unfold stampErr
      rw [hst]
      rfl))
    have e0 : ((num (sub (ptpBytes p) 34 10) 0 6 : Nat) : Int) = p.sec := by
      rw [num_sub _ 34 10 0 6 (by omega)]
      exact congrArg Ptp.sec (ptp_of hc hp)
    have e1 : ((num (sub (ptpBytes p) 34 10) 6 4 : Nat) : Int) = p.nano := by
      rw [num_sub _ 34 10 6 4 (by omega)]
      exact congrArg Ptp.nano (ptp_of hc hp)
    rw [e0, e1] at HT
    rw [ptp_err0 hc hp, ptp_got hc hp] at HD
    have HX := hide (fun j A c w (hj : j < (ptpBytes p).length) (h : RB w A j c ((ptpBytes p).take j)) => (show Calls Try.prog 17 #[.slice A j c] w fun e w' => e = .returned (.tuple #[.agg Ptp.zero.cells.toArray, .int .i64 5]) ∧ Below w.heap.size w w' by
      have := ptpDecode_any A j c _ w h (by omega)
      have e5 := ptp_cut hc j hj
      unfold ptpGot at this
      rwa [e5, if_neg (by omega)] at this))
    have HY := hide (fun A j c w (h : RB w A j c (ptpBytes p ++ [0])) => (show Calls Try.prog 17 #[.slice A j c] w fun e w' => e = .returned (.tuple #[.agg Ptp.zero.cells.toArray, .int .i64 6]) ∧ Below w.heap.size w w' by
      have := ptpDecode_any A j c _ w h (by have := h.len; rw [List.length_append, List.length_singleton] at this; omega)
      have e5 := ptp_more hc [0] (by simp)
      unfold ptpGot at this
      rwa [e5, if_neg (by omega)] at this))
    have hz := fun w => ptp_neq p p w
    rw [(ptpBeq_iff p p).2 rfl] at hz
    have x0 : p.cells[0]? = some (.int .i64 p.kind) := rfl
    have x8 : p.cells[8]? = some (.int .i64 p.sec) := rfl
    have x9 : p.cells[9]? = some (.int .i64 p.nano) := rfl
    have Hst := hide hst
    rw [← hlz] at HS
    have Hz := hide hz
    rw [hP] at HE HD Hz ⊢
    have one0 := ptp_one p
    have one1 := ptp_one Ptp.zero
    have hth0 : ∀ w : World, (w.alloc (.cells Ptp.zero.cells.toArray 28)).there w.heap.size 0 p.cells.toArray.size := fun w => there21 (Blk.new w 28 Ptp.zero.cells) rfl
    have Hth := hide hth0
    clear hth0
    have hj1 : (Try.prog.info? 28).map (·.size) = some p.cells.toArray.size := info21
    have Hput := hide (fun w => ptp_put p w)
    have Hput0 := hide (fun w => ptp_put Ptp.zero w)
    generalize p.kind = kd at *
    generalize p.sec = sec at *
    generalize p.nano = nano at *
    generalize ptpBytes p = bs at *
    generalize p.cells = cp at *
    clear hP hp hc v hlz e0 e1 hst hz
    go_enter Try.func8, Try.ntmps8
    go_wp2_with (refine wpList_load_mid rfl 28 _ rfl _ 0 rfl _ _ (range21 hN) Try.underlying28 rfl hi1 ?_)
    refine (HE.out _).mono ?_
    rintro e w1 ⟨A1, n1, c1, rfl, hown1, hB1⟩
    have hN1 := hN.below' hB1
    have hW1 := below_step hW hB1 hW.size
    have hown1 := hown1.mono hW.size
    obtain rfl : bs.length = n1 := hown1.len
    have c0 := (hN1.cell 0).trans x0
    have h44 : ¬ ((bs.length : Nat) : Int) < 44 := by omega
    clear hN hW hB1 HE
    go_wp2_with fail
    refine (HS.out w1).mono ?_
    rintro e w2 ⟨rfl, hB2⟩
    have hN2 := hN1.below' hB2
    have hW2 := below_step hW1 hB2 hW1.size
    have hr2 := (hown1.below hB2).rb
    have hown2 := hown1.below hB2
    clear hN1 hW1 hB2 hown1 c0 HS
    go_wp2_with fail
    refine (HD.out A1 _ c1 w2 hr2).mono ?_
    rintro e w3 ⟨rfl, hB3⟩
    have hN3 := hN2.below' hB3
    have hW3 := below_step hW2 hB3 hW2.size
    have hown3 := hown2.below hB3
    have hr3 := hown3.rb
    have hcap := hr3.cap
    have hmax := hr3.max
    have hc44 : ¬ ((c1 : Nat) : Int) < 44 := by omega
    have hc34 : ¬ c1 = 34 := by omega
    obtain ⟨b1, o1, rfl, -, -⟩ := hr3.cells (by omega)
    have hth := Hth.out w3
    have hP3 := Hput.out w3
    have hlt3 : w.heap.size < w3.heap.size := hN3.lt
    have HP := hide (And.intro hP3.1 (And.intro (hN3.below' hP3.2) (And.intro (hown3.below hP3.2) (below_step hW3 hP3.2 hW3.size))))
    clear hP3 hN2 hW2 hB3 hown2 hr2 HD
    go_wp2_with (refine wpList_store_mid rfl 28 _ _ rfl w3.heap.size 0 cp.toArray rfl rfl hth hj1 one0 ?_; refine wpList_gen (fun W => Blk W w3.heap.size 28 cp ∧ Blk W w.heap.size 28 cp ∧ OwnB W w.heap.size (some ⟨b1, o1, none⟩) bs.length c1 bs ∧ Below w.heap.size w W) HP.out ?_; rintro W1 ⟨hM4, hN4, hown4, hW4⟩)
    have hr4 := hown4.rb
    have hS := rb_sub (A' := some ⟨b1, o1 + 34, none⟩) (c' := c1 - 34) hr4 34 10 (by omega) (fun _ b o e => by cases e; rfl) (by omega) (by omega)
    refine (HT.out _ _ W1 hS).mono ?_
    rintro e w5 ⟨rfl, hB5⟩
    have hlt4 : w3.heap.size < W1.heap.size := hM4.lt
    have hM5 := hM4.below' hB5
    have hN5 := hN4.below' hB5
    have hown5 := hown4.below hB5
    have hW5 := below_step hW4 hB5 hW4.size
    have hS6 := Blk.new w5 24 [.int .i64 sec, .int .i64 nano]
    have hM6 := hM5.alloc (.cells #[.int .i64 sec, .int .i64 nano] 24)
    have hN6 := hN5.alloc (.cells #[.int .i64 sec, .int .i64 nano] 24)
    have hown6 := hown5.alloc (.cells #[.int .i64 sec, .int .i64 nano] 24)
    have hW6 := hW5.alloc hW5.size (.cells #[.int .i64 sec, .int .i64 nano] 24)
    have y8 := (hN6.cell 8).trans x8
    have y9 := (hN6.cell 9).trans x9
    have s0 := hS6.cell 0
    have s1 := hS6.cell 1
    simp only [List.getElem?_cons_zero, List.getElem?_cons_succ] at s0 s1
    have z0 : ∀ w, (Go.binOp .neq 28 (.agg cp.toArray) (.agg cp.toArray)).run Try.prog w = .ok (.bool false) w := Hz.out
    have hkm : 0 ≤ k % ((bs.length : Nat) : Int) ∧ k % ((bs.length : Nat) : Int) ≤ (c1 : Int) := by
      have h1 := Int.emod_nonneg k (b := ((bs.length : Nat) : Int)) (by omega)
      have h2 := Int.emod_lt_of_pos k (b := ((bs.length : Nat) : Int)) (by omega)
      omega
    have hjl : (k % ((bs.length : Nat) : Int)).toNat < bs.length := by
      have h1 := Int.emod_nonneg k (b := ((bs.length : Nat) : Int)) (by omega)
      have h2 := Int.emod_lt_of_pos k (b := ((bs.length : Nat) : Int)) (by omega)
      omega
    have hr6 := hown6.rb
    have hS6' := rb_sub (A' := some ⟨b1, o1, none⟩) (c' := c1) hr6 0 (k % ((bs.length : Nat) : Int)).toNat (by omega) (fun _ b o e => by cases e; rfl) (by omega) (by omega)
    clear hB5 hown4 hM4 hN4 hW4 hS hr4 HT hM5 hN5 hown5 hW5 x0 x8 x9
    go_wp2_with (first
      | (refine wpList_load_w rfl 28 _ rfl _ 0 rfl _ _ (range21 hM6) Try.underlying28 rfl hi1 ?_)
      | (refine wpList_load_w rfl 28 _ rfl _ 0 rfl _ _ (range21 hN6) Try.underlying28 rfl hi1 ?_))
    refine (HX.out _ _ _ _ hjl hS6').mono ?_
    rintro e w7 ⟨rfl, hB7⟩
    have hown7 := hown6.below hB7
    have hW7 := below_step hW6 hB7 hW6.size
    have hth7 := there21 (Blk.new w7 28 Ptp.zero.cells) rfl
    have hP7 := Hput0.out w7
    have HP7 := hide (And.intro (hown7.below hP7.2) (below_step hW7 hP7.2 hW7.size))
    clear hP7 hB7 hown6 hr6 hS6' hjl hM6 hN6 hS6 hW6 y8 y9 s0 s1
    go_wp2_with (first
      | (refine wpList_store_mid rfl 28 _ _ rfl w7.heap.size 0 Ptp.zero.cells.toArray rfl rfl hth7 info21 one1 ?_; refine wpList_gen (fun W => OwnB W w.heap.size (some ⟨b1, o1, none⟩) bs.length c1 bs ∧ Below w.heap.size w W) HP7.out ?_; rintro W8 ⟨hown8, hW8⟩)
      | (refine append_bytes rfl (.tmp 85) (.tmp 86) rfl (some ⟨b1, o1, none⟩) bs.length c1 bs (some ⟨W8.heap.size, 0, none⟩) 1 1 [0] rfl rfl w.heap.size w (hown8.alloc _) (rb_lit W8 [0]) (by omega) (hW8.alloc hW8.size _) (by have := hW8.size; simp; omega) ?_; intro A9 n9 c9 w9 hown9 hn9 hB9 _ _))
    refine (HY.out _ _ _ _ hown9.rb).mono ?_
    rintro e w10 ⟨rfl, hB10⟩
    have hW10 := below_step hB9 hB10 hB9.size
    have hth10 := there21 (Blk.new w10 28 Ptp.zero.cells) rfl
    have hP10 := Hput0.out w10
    have HP10 := hide (below_step hW10 hP10.2 hW10.size)
    clear hP10 hB9 hB10 hown9 hW8 hown8 hW7 hown7
    go_wp2_with (first
      | (refine wpList_store_mid rfl 28 _ _ rfl w10.heap.size 0 Ptp.zero.cells.toArray rfl rfl hth10 info21 one1 ?_; refine wpList_gen (fun W => Below w.heap.size w W) HP10.out ?_; rintro W11 hW11)
      | (go_at_call 13; refine (awake33 W11).mono ?_; rintro e w12 ⟨rfl, hB12⟩))
    go_ret
    exact ⟨rfl, below_step hW11 hB12 hW11.size⟩
  · have HE := hide (fun w => ptpEncode_err p w hp.kind hc)
    have HC := hide (fun w => ptpCheck_any p w hp.kind)
    have hc' : (ptpCheck p != 0) = true := by simpa using hc
    rw [hP] at HE HC ⊢
    generalize p.cells = cp at *
    generalize ptpCheck p = r at *
    clear hP hp hc
    go_enter Try.func8, Try.ntmps8
    go_wp2_with (refine wpList_load_mid rfl 28 _ rfl _ 0 rfl _ _ (range21 hN) Try.underlying28 rfl hi1 ?_)
    refine (HE.out _).mono ?_
    rintro e w1 ⟨rfl, hB1⟩
    have hN1 := hN.below' hB1
    have hW1 := below_step hW hB1 hW.size
    clear hN hW hB1 HE
    go_wp2_with (first
      | (refine wpList_load_mid rfl 28 _ rfl _ 0 rfl _ _ (range21 hN1) Try.underlying28 rfl hi1 ?_)
      | (go_at_call 9; refine (HC.out w1).mono ?_; rintro e w2 ⟨rfl, hB2⟩)
      | (go_at_call 13; refine (awake33 w2).mono ?_; rintro e w4 ⟨rfl, hB4⟩))
    go_ret
    have hW2 := below_step hW1 hB2 hW1.size
    exact ⟨rfl, below_step hW2 hB4 hW2.size⟩
end Go.Proofs.Ytlobddhpkemklaa
