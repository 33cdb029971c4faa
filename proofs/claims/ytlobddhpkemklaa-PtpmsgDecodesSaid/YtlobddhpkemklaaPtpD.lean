/- Decode.
  SEATS: ptp -/
import Derived.Test.YtlobddhpkemklaaPtpR
namespace Go.Proofs.Ytlobddhpkemklaa
open Go.RowKit
set_option linter.unusedVariables false

/-- Decode's error. -/
def ptpErr (bs : List UInt8) : Int :=
  if bs.length < 34 then 5 else if sizeOfKind (kindOf bs) = 0 ∨ num bs 1 1 ≠ 2 then 8 else if (bs.length : Int) < sizeOfKind (kindOf bs) then 5
  else if (num bs 2 2 : Int) ≠ sizeOfKind (kindOf bs) then 7 else if sizeOfKind (kindOf bs) < (bs.length : Int) then 6 else if zeroOr bs ≠ 0 then 7 else ptpCheck (ptpOf bs)
def ptpGot (bs : List UInt8) : Ptp := if ptpErr bs = 0 then ptpOf bs else Ptp.zero

theorem num_one (bs : List UInt8) (i : Nat) (h : i < bs.length) : num bs i 1 = (nth bs i).toNat := by
  unfold num
  rw [sub_succ bs i 0 (by omega), ofBe_snoc, sub_zero]
  simp [ofBe]
theorem kindOf_range (bs : List UInt8) (h : 1 ≤ bs.length) : 0 ≤ kindOf bs ∧ kindOf bs < 256 := by
  have := num_lt bs 0 1 (by omega)
  have e : kindOf bs = (num bs 0 1 : Nat) := rfl
  omega
theorem size_cases (k : Int) : sizeOfKind k = 0 ∨ sizeOfKind k = 44 ∨ sizeOfKind k = 54 ∨ sizeOfKind k = 64 := by
  unfold sizeOfKind
  split
  · exact .inr (.inl rfl)
  · split
    · exact .inr (.inr (.inl rfl))
    · split
      · exact .inr (.inr (.inr rfl))
      · exact .inl rfl

/-- How Decode ends. -/
def DecEnd (w : World) (p : Ptp) (err : Int) (e : Ending) (w' : World) : Prop := e = .returned (.tuple #[p.val, .int .i64 err]) ∧ Below w.heap.size w w'

theorem one_zero : (#[.int .i64 0, .int .i64 0, .int .i64 0, .int .i64 0, .int .u64 0, .int .i64 0, .int .i64 0, .int .i64 0, .int .i64 0, .int .i64 0, .int .u64 0, .int .i64 0, .int .i64 0, .int .i64 0, .int .i64 0, .int .i64 0, .int .i64 0, .int .i64 0, .int .u64 0, .int .i64 0, .int .i64 0] : Array Value).all (·.oneCell') = true := all_oneCell_toArray (by repeat (first | exact List.forall_mem_nil _ | refine List.forall_mem_cons.2 ⟨rfl, ?_⟩))

theorem dec_short (A : Option Addr) (m c : Nat) (bs : List UInt8) (w : World) (h : RB w A m c bs) (hm : m < 34) : Calls Try.prog 17 #[.slice A m c] w (DecEnd w Ptp.zero 5) := by
  have hZ := Blk.new w 28 [.int .i64 0, .int .i64 0, .int .i64 0, .int .i64 0, .int .u64 0, .int .i64 0, .int .i64 0, .int .i64 0, .int .i64 0, .int .i64 0, .int .u64 0, .int .i64 0, .int .i64 0, .int .i64 0, .int .i64 0, .int .i64 0, .int .i64 0, .int .i64 0, .int .u64 0, .int .i64 0, .int .i64 0]
  have hA := (Below.refl w.heap.size w).alloc (Nat.le_refl _) (.cells #[.int .i64 0, .int .i64 0, .int .i64 0, .int .i64 0, .int .u64 0, .int .i64 0, .int .i64 0, .int .i64 0, .int .i64 0, .int .i64 0, .int .u64 0, .int .i64 0, .int .i64 0, .int .i64 0, .int .i64 0, .int .i64 0, .int .i64 0, .int .i64 0, .int .u64 0, .int .i64 0, .int .i64 0] 28)
  have hth := there21 hZ rfl
  have HP := hide (⟨blk_setCells [.int .i64 0, .int .i64 0, .int .i64 0, .int .i64 0, .int .u64 0, .int .i64 0, .int .i64 0, .int .i64 0, .int .i64 0, .int .i64 0, .int .u64 0, .int .i64 0, .int .i64 0, .int .i64 0, .int .i64 0, .int .i64 0, .int .i64 0, .int .i64 0, .int .u64 0, .int .i64 0, .int .i64 0] [] [.int .i64 0, .int .i64 0, .int .i64 0, .int .i64 0, .int .u64 0, .int .i64 0, .int .i64 0, .int .i64 0, .int .i64 0, .int .i64 0, .int .u64 0, .int .i64 0, .int .i64 0, .int .i64 0, .int .i64 0, .int .i64 0, .int .i64 0, .int .i64 0, .int .u64 0, .int .i64 0, .int .i64 0] _ hZ rfl, below_setCells (Nat.le_refl w.heap.size) [.int .i64 0, .int .i64 0, .int .i64 0, .int .i64 0, .int .u64 0, .int .i64 0, .int .i64 0, .int .i64 0, .int .i64 0, .int .i64 0, .int .u64 0, .int .i64 0, .int .i64 0, .int .i64 0, .int .i64 0, .int .i64 0, .int .i64 0, .int .i64 0, .int .u64 0, .int .i64 0, .int .i64 0] 0 _ hA⟩ : _ ∧ _)
  clear hZ hA
  have h34 : (m : Int) < 34 := by omega
  go_enter Try.func17, Try.ntmps17
  go_wp2_with (refine wpList_store_mid rfl 28 _ _ rfl _ 0 _ rfl rfl hth info21 one_zero ?_; refine wpList_gen (fun W => Blk W w.heap.size 28 [.int .i64 0, .int .i64 0, .int .i64 0, .int .i64 0, .int .u64 0, .int .i64 0, .int .i64 0, .int .i64 0, .int .i64 0, .int .i64 0, .int .u64 0, .int .i64 0, .int .i64 0, .int .i64 0, .int .i64 0, .int .i64 0, .int .i64 0, .int .i64 0, .int .u64 0, .int .i64 0, .int .i64 0] ∧ Below w.heap.size w W) HP.out ?_; rintro Wf ⟨hZf, hWf⟩)
  exact bodyPost_ret (results21 rfl rfl rfl hZf rfl) rfl ⟨rfl, hWf⟩

set_option maxHeartbeats 1000000 in
theorem dec_kind0 (b o : Nat) (m c : Nat) (bs : List UInt8) (w : World) (h : RB w (some ⟨b, o, none⟩) m c bs) (hm : 34 ≤ m) (hm2 : m ≤ 70000000000000) (sz : Int) (hsz : sizeOfKind (kindOf bs) = sz) (h0 : sz = 0) : Calls Try.prog 17 #[.slice (some ⟨b, o, none⟩) m c] w (DecEnd w Ptp.zero 8) := by
  have hl := h.len
  have hcp := h.cap
  have hmx := h.max
  have Hl := hide hl
  have hkr := kindOf_range bs (by omega)
  have HS := hide (fun w => size_any (kindOf bs) w (by omega))
  rw [hsz] at HS
  have hZ := Blk.new w 28 [.int .i64 0, .int .i64 0, .int .i64 0, .int .i64 0, .int .u64 0, .int .i64 0, .int .i64 0, .int .i64 0, .int .i64 0, .int .i64 0, .int .u64 0, .int .i64 0, .int .i64 0, .int .i64 0, .int .i64 0, .int .i64 0, .int .i64 0, .int .i64 0, .int .u64 0, .int .i64 0, .int .i64 0]
  have hA := (Below.refl w.heap.size w).alloc (Nat.le_refl _) (.cells #[.int .i64 0, .int .i64 0, .int .i64 0, .int .i64 0, .int .u64 0, .int .i64 0, .int .i64 0, .int .i64 0, .int .i64 0, .int .i64 0, .int .u64 0, .int .i64 0, .int .i64 0, .int .i64 0, .int .i64 0, .int .i64 0, .int .i64 0, .int .i64 0, .int .u64 0, .int .i64 0, .int .i64 0] 28)
  have h1 := h.alloc (.cells #[.int .i64 0, .int .i64 0, .int .i64 0, .int .i64 0, .int .u64 0, .int .i64 0, .int .i64 0, .int .i64 0, .int .i64 0, .int .i64 0, .int .u64 0, .int .i64 0, .int .i64 0, .int .i64 0, .int .i64 0, .int .i64 0, .int .i64 0, .int .i64 0, .int .u64 0, .int .i64 0, .int .i64 0] 28)
  have ek : kindOf bs = ((nth bs 0).toNat : Int) := by
    have := num_one bs 0 (by omega)
    show ((num bs 0 1 : Nat) : Int) = _
    rw [this]
  obtain ⟨b1, o1, e1, k0⟩ := h1.at_ 0 (by omega)
  injection e1 with e1
  injection e1 with e2 e3 e4
  subst e2 e3
  rw [← ek, Nat.add_zero] at k0
  have h34 : ¬ (m : Int) < 34 := by omega
  have Hcases := hide (size_cases (kindOf bs))
  rw [hsz] at Hcases
  have Hsz := hide hsz
  clear hl hsz e4 ek
  generalize kindOf bs = K at *
  go_enter Try.func17, Try.ntmps17
  go_wp2_with fail
  refine (HS.out _).mono ?_
  rintro e w1 ⟨rfl, hB1⟩
  have hZ1 := hZ.below' hB1
  have hW1 := below_step hA hB1 hA.size
  have hr1 := h1.below hB1
  clear k0 hZ hA h1 hB1
  subst h0
  have hth := there21 hZ1 rfl
  have HP := hide (⟨blk_setCells [.int .i64 0, .int .i64 0, .int .i64 0, .int .i64 0, .int .u64 0, .int .i64 0, .int .i64 0, .int .i64 0, .int .i64 0, .int .i64 0, .int .u64 0, .int .i64 0, .int .i64 0, .int .i64 0, .int .i64 0, .int .i64 0, .int .i64 0, .int .i64 0, .int .u64 0, .int .i64 0, .int .i64 0] [] [.int .i64 0, .int .i64 0, .int .i64 0, .int .i64 0, .int .u64 0, .int .i64 0, .int .i64 0, .int .i64 0, .int .i64 0, .int .i64 0, .int .u64 0, .int .i64 0, .int .i64 0, .int .i64 0, .int .i64 0, .int .i64 0, .int .i64 0, .int .i64 0, .int .u64 0, .int .i64 0, .int .i64 0] _ hZ1 rfl, below_setCells (Nat.le_refl w.heap.size) [.int .i64 0, .int .i64 0, .int .i64 0, .int .i64 0, .int .u64 0, .int .i64 0, .int .i64 0, .int .i64 0, .int .i64 0, .int .i64 0, .int .u64 0, .int .i64 0, .int .i64 0, .int .i64 0, .int .i64 0, .int .i64 0, .int .i64 0, .int .i64 0, .int .u64 0, .int .i64 0, .int .i64 0] 0 _ hW1⟩ : _ ∧ _)
  go_wp2_with (refine wpList_store_mid rfl 28 _ _ rfl _ 0 _ rfl rfl hth info21 one_zero ?_; refine wpList_gen (fun W => Blk W w.heap.size 28 [.int .i64 0, .int .i64 0, .int .i64 0, .int .i64 0, .int .u64 0, .int .i64 0, .int .i64 0, .int .i64 0, .int .i64 0, .int .i64 0, .int .u64 0, .int .i64 0, .int .i64 0, .int .i64 0, .int .i64 0, .int .i64 0, .int .i64 0, .int .i64 0, .int .u64 0, .int .i64 0, .int .i64 0] ∧ Below w.heap.size w W) HP.out ?_; rintro Wf ⟨hZf, hWf⟩)
  exact bodyPost_ret (results21 rfl rfl rfl hZf rfl) rfl ⟨rfl, hWf⟩

set_option maxHeartbeats 1000000 in
theorem dec_kind1 (b o : Nat) (m c : Nat) (bs : List UInt8) (w : World) (h : RB w (some ⟨b, o, none⟩) m c bs) (hm : 34 ≤ m) (hm2 : m ≤ 70000000000000) (sz : Int) (hsz : sizeOfKind (kindOf bs) = sz) (h0 : (sz == 0) = false) (hv : num bs 1 1 ≠ 2) : Calls Try.prog 17 #[.slice (some ⟨b, o, none⟩) m c] w (DecEnd w Ptp.zero 8) := by
  have hl := h.len
  have hcp := h.cap
  have hmx := h.max
  have Hl := hide hl
  have hkr := kindOf_range bs (by omega)
  have HS := hide (fun w => size_any (kindOf bs) w (by omega))
  rw [hsz] at HS
  have hZ := Blk.new w 28 [.int .i64 0, .int .i64 0, .int .i64 0, .int .i64 0, .int .u64 0, .int .i64 0, .int .i64 0, .int .i64 0, .int .i64 0, .int .i64 0, .int .u64 0, .int .i64 0, .int .i64 0, .int .i64 0, .int .i64 0, .int .i64 0, .int .i64 0, .int .i64 0, .int .u64 0, .int .i64 0, .int .i64 0]
  have hA := (Below.refl w.heap.size w).alloc (Nat.le_refl _) (.cells #[.int .i64 0, .int .i64 0, .int .i64 0, .int .i64 0, .int .u64 0, .int .i64 0, .int .i64 0, .int .i64 0, .int .i64 0, .int .i64 0, .int .u64 0, .int .i64 0, .int .i64 0, .int .i64 0, .int .i64 0, .int .i64 0, .int .i64 0, .int .i64 0, .int .u64 0, .int .i64 0, .int .i64 0] 28)
  have h1 := h.alloc (.cells #[.int .i64 0, .int .i64 0, .int .i64 0, .int .i64 0, .int .u64 0, .int .i64 0, .int .i64 0, .int .i64 0, .int .i64 0, .int .i64 0, .int .u64 0, .int .i64 0, .int .i64 0, .int .i64 0, .int .i64 0, .int .i64 0, .int .i64 0, .int .i64 0, .int .u64 0, .int .i64 0, .int .i64 0] 28)
  have ek : kindOf bs = ((nth bs 0).toNat : Int) := by
    have := num_one bs 0 (by omega)
    show ((num bs 0 1 : Nat) : Int) = _
    rw [this]
  obtain ⟨b1, o1, e1, k0⟩ := h1.at_ 0 (by omega)
  injection e1 with e1
  injection e1 with e2 e3 e4
  subst e2 e3
  rw [← ek, Nat.add_zero] at k0
  have h34 : ¬ (m : Int) < 34 := by omega
  have Hcases := hide (size_cases (kindOf bs))
  rw [hsz] at Hcases
  have Hsz := hide hsz
  clear hl hsz e4 ek
  generalize kindOf bs = K at *
  go_enter Try.func17, Try.ntmps17
  go_wp2_with fail
  refine (HS.out _).mono ?_
  rintro e w1 ⟨rfl, hB1⟩
  have hZ1 := hZ.below' hB1
  have hW1 := below_step hA hB1 hA.size
  have hr1 := h1.below hB1
  clear k0 hZ hA h1 hB1
  obtain ⟨b1, o1, e1, k1⟩ := hr1.at_ 1 (by have := Hl.out; omega)
  injection e1 with e1
  injection e1 with e2 e3 e4
  subst e2 e3
  have en := num_one bs 1 (by have := Hl.out; omega)
  have hv2 : (((nth bs 1).toNat : Int) != 2) = true := by
    rw [en] at hv
    simp
    omega
  clear hv en
  have hth := there21 hZ1 rfl
  have HP := hide (⟨blk_setCells [.int .i64 0, .int .i64 0, .int .i64 0, .int .i64 0, .int .u64 0, .int .i64 0, .int .i64 0, .int .i64 0, .int .i64 0, .int .i64 0, .int .u64 0, .int .i64 0, .int .i64 0, .int .i64 0, .int .i64 0, .int .i64 0, .int .i64 0, .int .i64 0, .int .u64 0, .int .i64 0, .int .i64 0] [] [.int .i64 0, .int .i64 0, .int .i64 0, .int .i64 0, .int .u64 0, .int .i64 0, .int .i64 0, .int .i64 0, .int .i64 0, .int .i64 0, .int .u64 0, .int .i64 0, .int .i64 0, .int .i64 0, .int .i64 0, .int .i64 0, .int .i64 0, .int .i64 0, .int .u64 0, .int .i64 0, .int .i64 0] _ hZ1 rfl, below_setCells (Nat.le_refl w.heap.size) [.int .i64 0, .int .i64 0, .int .i64 0, .int .i64 0, .int .u64 0, .int .i64 0, .int .i64 0, .int .i64 0, .int .i64 0, .int .i64 0, .int .u64 0, .int .i64 0, .int .i64 0, .int .i64 0, .int .i64 0, .int .i64 0, .int .i64 0, .int .i64 0, .int .u64 0, .int .i64 0, .int .i64 0] 0 _ hW1⟩ : _ ∧ _)
  go_wp2_with (refine wpList_store_mid rfl 28 _ _ rfl _ 0 _ rfl rfl hth info21 one_zero ?_; refine wpList_gen (fun W => Blk W w.heap.size 28 [.int .i64 0, .int .i64 0, .int .i64 0, .int .i64 0, .int .u64 0, .int .i64 0, .int .i64 0, .int .i64 0, .int .i64 0, .int .i64 0, .int .u64 0, .int .i64 0, .int .i64 0, .int .i64 0, .int .i64 0, .int .i64 0, .int .i64 0, .int .i64 0, .int .u64 0, .int .i64 0, .int .i64 0] ∧ Below w.heap.size w W) HP.out ?_; rintro Wf ⟨hZf, hWf⟩)
  exact bodyPost_ret (results21 rfl rfl rfl hZf rfl) rfl ⟨rfl, hWf⟩

set_option maxHeartbeats 1000000 in
theorem dec_short2 (b o : Nat) (m c : Nat) (bs : List UInt8) (w : World) (h : RB w (some ⟨b, o, none⟩) m c bs) (hm : 34 ≤ m) (hm2 : m ≤ 70000000000000) (sz : Int) (hsz : sizeOfKind (kindOf bs) = sz) (h0 : (sz == 0) = false) (hv : num bs 1 1 = 2) (hs : (m : Int) < sz) : Calls Try.prog 17 #[.slice (some ⟨b, o, none⟩) m c] w (DecEnd w Ptp.zero 5) := by
  have hl := h.len
  have hcp := h.cap
  have hmx := h.max
  have Hl := hide hl
  have hkr := kindOf_range bs (by omega)
  have HS := hide (fun w => size_any (kindOf bs) w (by omega))
  rw [hsz] at HS
  have hZ := Blk.new w 28 [.int .i64 0, .int .i64 0, .int .i64 0, .int .i64 0, .int .u64 0, .int .i64 0, .int .i64 0, .int .i64 0, .int .i64 0, .int .i64 0, .int .u64 0, .int .i64 0, .int .i64 0, .int .i64 0, .int .i64 0, .int .i64 0, .int .i64 0, .int .i64 0, .int .u64 0, .int .i64 0, .int .i64 0]
  have hA := (Below.refl w.heap.size w).alloc (Nat.le_refl _) (.cells #[.int .i64 0, .int .i64 0, .int .i64 0, .int .i64 0, .int .u64 0, .int .i64 0, .int .i64 0, .int .i64 0, .int .i64 0, .int .i64 0, .int .u64 0, .int .i64 0, .int .i64 0, .int .i64 0, .int .i64 0, .int .i64 0, .int .i64 0, .int .i64 0, .int .u64 0, .int .i64 0, .int .i64 0] 28)
  have h1 := h.alloc (.cells #[.int .i64 0, .int .i64 0, .int .i64 0, .int .i64 0, .int .u64 0, .int .i64 0, .int .i64 0, .int .i64 0, .int .i64 0, .int .i64 0, .int .u64 0, .int .i64 0, .int .i64 0, .int .i64 0, .int .i64 0, .int .i64 0, .int .i64 0, .int .i64 0, .int .u64 0, .int .i64 0, .int .i64 0] 28)
  have ek : kindOf bs = ((nth bs 0).toNat : Int) := by
    have := num_one bs 0 (by omega)
    show ((num bs 0 1 : Nat) : Int) = _
    rw [this]
  obtain ⟨b1, o1, e1, k0⟩ := h1.at_ 0 (by omega)
  injection e1 with e1
  injection e1 with e2 e3 e4
  subst e2 e3
  rw [← ek, Nat.add_zero] at k0
  have h34 : ¬ (m : Int) < 34 := by omega
  have Hcases := hide (size_cases (kindOf bs))
  rw [hsz] at Hcases
  have Hsz := hide hsz
  clear hl hsz e4 ek
  generalize kindOf bs = K at *
  go_enter Try.func17, Try.ntmps17
  go_wp2_with fail
  refine (HS.out _).mono ?_
  rintro e w1 ⟨rfl, hB1⟩
  have hZ1 := hZ.below' hB1
  have hW1 := below_step hA hB1 hA.size
  have hr1 := h1.below hB1
  clear k0 hZ hA h1 hB1
  obtain ⟨b1, o1, e1, k1⟩ := hr1.at_ 1 (by have := Hl.out; omega)
  injection e1 with e1
  injection e1 with e2 e3 e4
  subst e2 e3
  have en := num_one bs 1 (by have := Hl.out; omega)
  rw [hv] at en
  rw [show ((nth bs 1).toNat : Int) = 2 by omega] at k1
  clear en hv
  have hth := there21 hZ1 rfl
  have HP := hide (⟨blk_setCells [.int .i64 0, .int .i64 0, .int .i64 0, .int .i64 0, .int .u64 0, .int .i64 0, .int .i64 0, .int .i64 0, .int .i64 0, .int .i64 0, .int .u64 0, .int .i64 0, .int .i64 0, .int .i64 0, .int .i64 0, .int .i64 0, .int .i64 0, .int .i64 0, .int .u64 0, .int .i64 0, .int .i64 0] [] [.int .i64 0, .int .i64 0, .int .i64 0, .int .i64 0, .int .u64 0, .int .i64 0, .int .i64 0, .int .i64 0, .int .i64 0, .int .i64 0, .int .u64 0, .int .i64 0, .int .i64 0, .int .i64 0, .int .i64 0, .int .i64 0, .int .i64 0, .int .i64 0, .int .u64 0, .int .i64 0, .int .i64 0] _ hZ1 rfl, below_setCells (Nat.le_refl w.heap.size) [.int .i64 0, .int .i64 0, .int .i64 0, .int .i64 0, .int .u64 0, .int .i64 0, .int .i64 0, .int .i64 0, .int .i64 0, .int .i64 0, .int .u64 0, .int .i64 0, .int .i64 0, .int .i64 0, .int .i64 0, .int .i64 0, .int .i64 0, .int .i64 0, .int .u64 0, .int .i64 0, .int .i64 0] 0 _ hW1⟩ : _ ∧ _)
  go_wp2_with (refine wpList_store_mid rfl 28 _ _ rfl _ 0 _ rfl rfl hth info21 one_zero ?_; refine wpList_gen (fun W => Blk W w.heap.size 28 [.int .i64 0, .int .i64 0, .int .i64 0, .int .i64 0, .int .u64 0, .int .i64 0, .int .i64 0, .int .i64 0, .int .i64 0, .int .i64 0, .int .u64 0, .int .i64 0, .int .i64 0, .int .i64 0, .int .i64 0, .int .i64 0, .int .i64 0, .int .i64 0, .int .u64 0, .int .i64 0, .int .i64 0] ∧ Below w.heap.size w W) HP.out ?_; rintro Wf ⟨hZf, hWf⟩)
  exact bodyPost_ret (results21 rfl rfl rfl hZf rfl) rfl ⟨rfl, hWf⟩

set_option maxHeartbeats 1000000 in
theorem dec_form (b o : Nat) (m c : Nat) (bs : List UInt8) (w : World) (h : RB w (some ⟨b, o, none⟩) m c bs) (hm : 34 ≤ m) (hm2 : m ≤ 70000000000000) (sz : Int) (hsz : sizeOfKind (kindOf bs) = sz) (h0 : (sz == 0) = false) (hv : num bs 1 1 = 2) (hs : ¬ (m : Int) < sz) (hf : ((num bs 2 2 : Int) != sz) = true) : Calls Try.prog 17 #[.slice (some ⟨b, o, none⟩) m c] w (DecEnd w Ptp.zero 7) := by
  have hl := h.len
  have hcp := h.cap
  have hmx := h.max
  have Hl := hide hl
  have hkr := kindOf_range bs (by omega)
  have HS := hide (fun w => size_any (kindOf bs) w (by omega))
  rw [hsz] at HS
  have hZ := Blk.new w 28 [.int .i64 0, .int .i64 0, .int .i64 0, .int .i64 0, .int .u64 0, .int .i64 0, .int .i64 0, .int .i64 0, .int .i64 0, .int .i64 0, .int .u64 0, .int .i64 0, .int .i64 0, .int .i64 0, .int .i64 0, .int .i64 0, .int .i64 0, .int .i64 0, .int .u64 0, .int .i64 0, .int .i64 0]
  have hA := (Below.refl w.heap.size w).alloc (Nat.le_refl _) (.cells #[.int .i64 0, .int .i64 0, .int .i64 0, .int .i64 0, .int .u64 0, .int .i64 0, .int .i64 0, .int .i64 0, .int .i64 0, .int .i64 0, .int .u64 0, .int .i64 0, .int .i64 0, .int .i64 0, .int .i64 0, .int .i64 0, .int .i64 0, .int .i64 0, .int .u64 0, .int .i64 0, .int .i64 0] 28)
  have h1 := h.alloc (.cells #[.int .i64 0, .int .i64 0, .int .i64 0, .int .i64 0, .int .u64 0, .int .i64 0, .int .i64 0, .int .i64 0, .int .i64 0, .int .i64 0, .int .u64 0, .int .i64 0, .int .i64 0, .int .i64 0, .int .i64 0, .int .i64 0, .int .i64 0, .int .i64 0, .int .u64 0, .int .i64 0, .int .i64 0] 28)
  have ek : kindOf bs = ((nth bs 0).toNat : Int) := by
    have := num_one bs 0 (by omega)
    show ((num bs 0 1 : Nat) : Int) = _
    rw [this]
  obtain ⟨b1, o1, e1, k0⟩ := h1.at_ 0 (by omega)
  injection e1 with e1
  injection e1 with e2 e3 e4
  subst e2 e3
  rw [← ek, Nat.add_zero] at k0
  have h34 : ¬ (m : Int) < 34 := by omega
  have Hcases := hide (size_cases (kindOf bs))
  rw [hsz] at Hcases
  have Hsz := hide hsz
  clear hl hsz e4 ek
  generalize kindOf bs = K at *
  go_enter Try.func17, Try.ntmps17
  go_wp2_with fail
  refine (HS.out _).mono ?_
  rintro e w1 ⟨rfl, hB1⟩
  have hZ1 := hZ.below' hB1
  have hW1 := below_step hA hB1 hA.size
  have hr1 := h1.below hB1
  clear k0 hZ hA h1 hB1
  obtain ⟨b1, o1, e1, k1⟩ := hr1.at_ 1 (by have := Hl.out; omega)
  injection e1 with e1
  injection e1 with e2 e3 e4
  subst e2 e3
  have en := num_one bs 1 (by have := Hl.out; omega)
  rw [hv] at en
  rw [show ((nth bs 1).toNat : Int) = 2 by omega] at k1
  clear en hv
  have hth := there21 hZ1 rfl
  have HP := hide (⟨blk_setCells [.int .i64 0, .int .i64 0, .int .i64 0, .int .i64 0, .int .u64 0, .int .i64 0, .int .i64 0, .int .i64 0, .int .i64 0, .int .i64 0, .int .u64 0, .int .i64 0, .int .i64 0, .int .i64 0, .int .i64 0, .int .i64 0, .int .i64 0, .int .i64 0, .int .u64 0, .int .i64 0, .int .i64 0] [] [.int .i64 0, .int .i64 0, .int .i64 0, .int .i64 0, .int .u64 0, .int .i64 0, .int .i64 0, .int .i64 0, .int .i64 0, .int .i64 0, .int .u64 0, .int .i64 0, .int .i64 0, .int .i64 0, .int .i64 0, .int .i64 0, .int .i64 0, .int .i64 0, .int .u64 0, .int .i64 0, .int .i64 0] _ hZ1 rfl, below_setCells (Nat.le_refl w.heap.size) [.int .i64 0, .int .i64 0, .int .i64 0, .int .i64 0, .int .u64 0, .int .i64 0, .int .i64 0, .int .i64 0, .int .i64 0, .int .i64 0, .int .u64 0, .int .i64 0, .int .i64 0, .int .i64 0, .int .i64 0, .int .i64 0, .int .i64 0, .int .i64 0, .int .u64 0, .int .i64 0, .int .i64 0] 0 _ hW1⟩ : _ ∧ _)
  go_wp2_with fail
  refine (get_any (some ⟨b, o, none⟩) m c bs 2 2 w1 hr1 (by omega) (by omega) (by omega) (by omega)).mono ?_
  rintro e w2 ⟨rfl, rfl⟩
  rw [show ofBe (sub bs (Int.toNat 2) (Int.toNat 2)) = num bs 2 2 from rfl]
  have hn2 := num_lt bs 2 2 (by have := Hl.out; omega)
  simp only [Nat.reducePow] at hn2
  clear k1
  go_wp2_with (refine wpList_store_mid rfl 28 _ _ rfl _ 0 _ rfl rfl hth info21 one_zero ?_; refine wpList_gen (fun W => Blk W w.heap.size 28 [.int .i64 0, .int .i64 0, .int .i64 0, .int .i64 0, .int .u64 0, .int .i64 0, .int .i64 0, .int .i64 0, .int .i64 0, .int .i64 0, .int .u64 0, .int .i64 0, .int .i64 0, .int .i64 0, .int .i64 0, .int .i64 0, .int .i64 0, .int .i64 0, .int .u64 0, .int .i64 0, .int .i64 0] ∧ Below w.heap.size w W) HP.out ?_; rintro Wf ⟨hZf, hWf⟩)
  exact bodyPost_ret (results21 rfl rfl rfl hZf rfl) rfl ⟨rfl, hWf⟩

set_option maxHeartbeats 1000000 in
theorem dec_long (b o : Nat) (m c : Nat) (bs : List UInt8) (w : World) (h : RB w (some ⟨b, o, none⟩) m c bs) (hm : 34 ≤ m) (hm2 : m ≤ 70000000000000) (sz : Int) (hsz : sizeOfKind (kindOf bs) = sz) (h0 : (sz == 0) = false) (hv : num bs 1 1 = 2) (hs : ¬ (m : Int) < sz) (hf : (num bs 2 2 : Int) = sz) (hg : sz < (m : Int)) : Calls Try.prog 17 #[.slice (some ⟨b, o, none⟩) m c] w (DecEnd w Ptp.zero 6) := by
  have hl := h.len
  have hcp := h.cap
  have hmx := h.max
  have Hl := hide hl
  have hkr := kindOf_range bs (by omega)
  have HS := hide (fun w => size_any (kindOf bs) w (by omega))
  rw [hsz] at HS
  have hZ := Blk.new w 28 [.int .i64 0, .int .i64 0, .int .i64 0, .int .i64 0, .int .u64 0, .int .i64 0, .int .i64 0, .int .i64 0, .int .i64 0, .int .i64 0, .int .u64 0, .int .i64 0, .int .i64 0, .int .i64 0, .int .i64 0, .int .i64 0, .int .i64 0, .int .i64 0, .int .u64 0, .int .i64 0, .int .i64 0]
  have hA := (Below.refl w.heap.size w).alloc (Nat.le_refl _) (.cells #[.int .i64 0, .int .i64 0, .int .i64 0, .int .i64 0, .int .u64 0, .int .i64 0, .int .i64 0, .int .i64 0, .int .i64 0, .int .i64 0, .int .u64 0, .int .i64 0, .int .i64 0, .int .i64 0, .int .i64 0, .int .i64 0, .int .i64 0, .int .i64 0, .int .u64 0, .int .i64 0, .int .i64 0] 28)
  have h1 := h.alloc (.cells #[.int .i64 0, .int .i64 0, .int .i64 0, .int .i64 0, .int .u64 0, .int .i64 0, .int .i64 0, .int .i64 0, .int .i64 0, .int .i64 0, .int .u64 0, .int .i64 0, .int .i64 0, .int .i64 0, .int .i64 0, .int .i64 0, .int .i64 0, .int .i64 0, .int .u64 0, .int .i64 0, .int .i64 0] 28)
  have ek : kindOf bs = ((nth bs 0).toNat : Int) := by
    have := num_one bs 0 (by omega)
    show ((num bs 0 1 : Nat) : Int) = _
    rw [this]
  obtain ⟨b1, o1, e1, k0⟩ := h1.at_ 0 (by omega)
  injection e1 with e1
  injection e1 with e2 e3 e4
  subst e2 e3
  rw [← ek, Nat.add_zero] at k0
  have h34 : ¬ (m : Int) < 34 := by omega
  have Hcases := hide (size_cases (kindOf bs))
  rw [hsz] at Hcases
  have Hsz := hide hsz
  clear hl hsz e4 ek
  generalize kindOf bs = K at *
  go_enter Try.func17, Try.ntmps17
  go_wp2_with fail
  refine (HS.out _).mono ?_
  rintro e w1 ⟨rfl, hB1⟩
  have hZ1 := hZ.below' hB1
  have hW1 := below_step hA hB1 hA.size
  have hr1 := h1.below hB1
  clear k0 hZ hA h1 hB1
  obtain ⟨b1, o1, e1, k1⟩ := hr1.at_ 1 (by have := Hl.out; omega)
  injection e1 with e1
  injection e1 with e2 e3 e4
  subst e2 e3
  have en := num_one bs 1 (by have := Hl.out; omega)
  rw [hv] at en
  rw [show ((nth bs 1).toNat : Int) = 2 by omega] at k1
  clear en hv
  have hth := there21 hZ1 rfl
  have HP := hide (⟨blk_setCells [.int .i64 0, .int .i64 0, .int .i64 0, .int .i64 0, .int .u64 0, .int .i64 0, .int .i64 0, .int .i64 0, .int .i64 0, .int .i64 0, .int .u64 0, .int .i64 0, .int .i64 0, .int .i64 0, .int .i64 0, .int .i64 0, .int .i64 0, .int .i64 0, .int .u64 0, .int .i64 0, .int .i64 0] [] [.int .i64 0, .int .i64 0, .int .i64 0, .int .i64 0, .int .u64 0, .int .i64 0, .int .i64 0, .int .i64 0, .int .i64 0, .int .i64 0, .int .u64 0, .int .i64 0, .int .i64 0, .int .i64 0, .int .i64 0, .int .i64 0, .int .i64 0, .int .i64 0, .int .u64 0, .int .i64 0, .int .i64 0] _ hZ1 rfl, below_setCells (Nat.le_refl w.heap.size) [.int .i64 0, .int .i64 0, .int .i64 0, .int .i64 0, .int .u64 0, .int .i64 0, .int .i64 0, .int .i64 0, .int .i64 0, .int .i64 0, .int .u64 0, .int .i64 0, .int .i64 0, .int .i64 0, .int .i64 0, .int .i64 0, .int .i64 0, .int .i64 0, .int .u64 0, .int .i64 0, .int .i64 0] 0 _ hW1⟩ : _ ∧ _)
  go_wp2_with fail
  refine (get_any (some ⟨b, o, none⟩) m c bs 2 2 w1 hr1 (by omega) (by omega) (by omega) (by omega)).mono ?_
  rintro e w2 ⟨rfl, rfl⟩
  rw [show ofBe (sub bs (Int.toNat 2) (Int.toNat 2)) = num bs 2 2 from rfl]
  have hn2 := num_lt bs 2 2 (by have := Hl.out; omega)
  simp only [Nat.reducePow] at hn2
  clear k1
  rw [hf]
  go_wp2_with (refine wpList_store_mid rfl 28 _ _ rfl _ 0 _ rfl rfl hth info21 one_zero ?_; refine wpList_gen (fun W => Blk W w.heap.size 28 [.int .i64 0, .int .i64 0, .int .i64 0, .int .i64 0, .int .u64 0, .int .i64 0, .int .i64 0, .int .i64 0, .int .i64 0, .int .i64 0, .int .u64 0, .int .i64 0, .int .i64 0, .int .i64 0, .int .i64 0, .int .i64 0, .int .i64 0, .int .i64 0, .int .u64 0, .int .i64 0, .int .i64 0] ∧ Below w.heap.size w W) HP.out ?_; rintro Wf ⟨hZf, hWf⟩)
  exact bodyPost_ret (results21 rfl rfl rfl hZf rfl) rfl ⟨rfl, hWf⟩

set_option maxHeartbeats 1000000 in
theorem dec_zero (b o : Nat) (m c : Nat) (bs : List UInt8) (w : World) (h : RB w (some ⟨b, o, none⟩) m c bs) (hm : 34 ≤ m) (hm2 : m ≤ 70000000000000) (sz : Int) (hsz : sizeOfKind (kindOf bs) = sz) (h0 : (sz == 0) = false) (hv : num bs 1 1 = 2) (hs : sz = (m : Int)) (hf : (num bs 2 2 : Int) = sz) (a0 a1 a2 a3 a4 a5 a6 a7 a8 a9 a10 a11 a12 a13 a14 a15 a16 a17 a18 a19 a20 : Int) (hp : ptpOf bs = ⟨a0, a1, a2, a3, a4, a5, a6, a7, a8, a9, a10, a11, a12, a13, a14, a15, a16, a17, a18, a19, a20⟩) (hz : (zeroOr bs == 0) = false) : Calls Try.prog 17 #[.slice (some ⟨b, o, none⟩) m c] w (DecEnd w Ptp.zero 7) := by
  have HPv := hide (show (ptpOf bs).val = .agg #[.int .i64 a0, .int .i64 a1, .int .i64 a2, .int .i64 a3, .int .u64 a4, .int .i64 a5, .int .i64 a6, .int .i64 a7, .int .i64 a8, .int .i64 a9, .int .u64 a10, .int .i64 a11, .int .i64 a12, .int .i64 a13, .int .i64 a14, .int .i64 a15, .int .i64 a16, .int .i64 a17, .int .u64 a18, .int .i64 a19, .int .i64 a20] by rw [hp]; rfl)
  have HRd := hide (fun w (h : RB w (some ⟨b, o, none⟩) m c bs) => read_any (some ⟨b, o, none⟩) m c bs w h (by
    rcases size_cases (kindOf bs) with e | e | e | e
    · rw [hsz] at e; subst e; simp at h0
    all_goals omega) (by rw [hsz, hs]))
  have hl := h.len
  have hcp := h.cap
  have hmx := h.max
  have Hl := hide hl
  have hkr := kindOf_range bs (by omega)
  have HS := hide (fun w => size_any (kindOf bs) w (by omega))
  rw [hsz] at HS
  have hZ := Blk.new w 28 [.int .i64 0, .int .i64 0, .int .i64 0, .int .i64 0, .int .u64 0, .int .i64 0, .int .i64 0, .int .i64 0, .int .i64 0, .int .i64 0, .int .u64 0, .int .i64 0, .int .i64 0, .int .i64 0, .int .i64 0, .int .i64 0, .int .i64 0, .int .i64 0, .int .u64 0, .int .i64 0, .int .i64 0]
  have hA := (Below.refl w.heap.size w).alloc (Nat.le_refl _) (.cells #[.int .i64 0, .int .i64 0, .int .i64 0, .int .i64 0, .int .u64 0, .int .i64 0, .int .i64 0, .int .i64 0, .int .i64 0, .int .i64 0, .int .u64 0, .int .i64 0, .int .i64 0, .int .i64 0, .int .i64 0, .int .i64 0, .int .i64 0, .int .i64 0, .int .u64 0, .int .i64 0, .int .i64 0] 28)
  have h1 := h.alloc (.cells #[.int .i64 0, .int .i64 0, .int .i64 0, .int .i64 0, .int .u64 0, .int .i64 0, .int .i64 0, .int .i64 0, .int .i64 0, .int .i64 0, .int .u64 0, .int .i64 0, .int .i64 0, .int .i64 0, .int .i64 0, .int .i64 0, .int .i64 0, .int .i64 0, .int .u64 0, .int .i64 0, .int .i64 0] 28)
  have ek : kindOf bs = ((nth bs 0).toNat : Int) := by
    have := num_one bs 0 (by omega)
    show ((num bs 0 1 : Nat) : Int) = _
    rw [this]
  obtain ⟨b1, o1, e1, k0⟩ := h1.at_ 0 (by omega)
  injection e1 with e1
  injection e1 with e2 e3 e4
  subst e2 e3
  rw [← ek, Nat.add_zero] at k0
  have h34 : ¬ (m : Int) < 34 := by omega
  have Hcases := hide (size_cases (kindOf bs))
  rw [hsz] at Hcases
  have Hsz := hide hsz
  clear hl hsz e4 ek
  generalize kindOf bs = K at *
  go_enter Try.func17, Try.ntmps17
  go_wp2_with fail
  refine (HS.out _).mono ?_
  rintro e w1 ⟨rfl, hB1⟩
  have hZ1 := hZ.below' hB1
  have hW1 := below_step hA hB1 hA.size
  have hr1 := h1.below hB1
  clear k0 hZ hA h1 hB1
  obtain ⟨b1, o1, e1, k1⟩ := hr1.at_ 1 (by have := Hl.out; omega)
  injection e1 with e1
  injection e1 with e2 e3 e4
  subst e2 e3
  have en := num_one bs 1 (by have := Hl.out; omega)
  rw [hv] at en
  rw [show ((nth bs 1).toNat : Int) = 2 by omega] at k1
  clear en hv
  go_wp2_with fail
  refine (get_any (some ⟨b, o, none⟩) m c bs 2 2 w1 hr1 (by omega) (by omega) (by omega) (by omega)).mono ?_
  rintro e w2 ⟨rfl, rfl⟩
  rw [show ofBe (sub bs (Int.toNat 2) (Int.toNat 2)) = num bs 2 2 from rfl]
  have hn2 := num_lt bs 2 2 (by have := Hl.out; omega)
  simp only [Nat.reducePow] at hn2
  clear k1
  rw [hf]
  go_wp2_with fail
  refine (HRd.out w1 hr1).mono ?_
  rintro e w3 ⟨rfl, hB3⟩
  rw [HPv.out]
  have hZ3 := hZ1.below' hB3
  have hW3 := below_step hW1 hB3 hW1.size
  have hN := Blk.new w3 28 [.int .i64 0, .int .i64 0, .int .i64 0, .int .i64 0, .int .u64 0, .int .i64 0, .int .i64 0, .int .i64 0, .int .i64 0, .int .i64 0, .int .u64 0, .int .i64 0, .int .i64 0, .int .i64 0, .int .i64 0, .int .i64 0, .int .i64 0, .int .i64 0, .int .u64 0, .int .i64 0, .int .i64 0]
  have hthN := there21 hN rfl
  have hne : w.heap.size ≠ w3.heap.size := Nat.ne_of_lt hZ3.lt
  have hwl : w.heap.size ≤ w3.heap.size := hW3.size
  have HPN := hide (⟨blk_setCells [.int .i64 a0, .int .i64 a1, .int .i64 a2, .int .i64 a3, .int .u64 a4, .int .i64 a5, .int .i64 a6, .int .i64 a7, .int .i64 a8, .int .i64 a9, .int .u64 a10, .int .i64 a11, .int .i64 a12, .int .i64 a13, .int .i64 a14, .int .i64 a15, .int .i64 a16, .int .i64 a17, .int .u64 a18, .int .i64 a19, .int .i64 a20] [] [.int .i64 0, .int .i64 0, .int .i64 0, .int .i64 0, .int .u64 0, .int .i64 0, .int .i64 0, .int .i64 0, .int .i64 0, .int .i64 0, .int .u64 0, .int .i64 0, .int .i64 0, .int .i64 0, .int .i64 0, .int .i64 0, .int .i64 0, .int .i64 0, .int .u64 0, .int .i64 0, .int .i64 0] _ hN rfl, blk_farCells hne [.int .i64 a0, .int .i64 a1, .int .i64 a2, .int .i64 a3, .int .u64 a4, .int .i64 a5, .int .i64 a6, .int .i64 a7, .int .i64 a8, .int .i64 a9, .int .u64 a10, .int .i64 a11, .int .i64 a12, .int .i64 a13, .int .i64 a14, .int .i64 a15, .int .i64 a16, .int .i64 a17, .int .u64 a18, .int .i64 a19, .int .i64 a20] 0 _ (hZ3.alloc (.cells #[.int .i64 0, .int .i64 0, .int .i64 0, .int .i64 0, .int .u64 0, .int .i64 0, .int .i64 0, .int .i64 0, .int .i64 0, .int .i64 0, .int .u64 0, .int .i64 0, .int .i64 0, .int .i64 0, .int .i64 0, .int .i64 0, .int .i64 0, .int .i64 0, .int .u64 0, .int .i64 0, .int .i64 0] 28)), below_setCells hwl [.int .i64 a0, .int .i64 a1, .int .i64 a2, .int .i64 a3, .int .u64 a4, .int .i64 a5, .int .i64 a6, .int .i64 a7, .int .i64 a8, .int .i64 a9, .int .u64 a10, .int .i64 a11, .int .i64 a12, .int .i64 a13, .int .i64 a14, .int .i64 a15, .int .i64 a16, .int .i64 a17, .int .u64 a18, .int .i64 a19, .int .i64 a20] 0 _ (hW3.alloc hwl (.cells #[.int .i64 0, .int .i64 0, .int .i64 0, .int .i64 0, .int .u64 0, .int .i64 0, .int .i64 0, .int .i64 0, .int .i64 0, .int .i64 0, .int .u64 0, .int .i64 0, .int .i64 0, .int .i64 0, .int .i64 0, .int .i64 0, .int .i64 0, .int .i64 0, .int .u64 0, .int .i64 0, .int .i64 0] 28))⟩ : _ ∧ _ ∧ _)
  have honeL : (#[.int .i64 a0, .int .i64 a1, .int .i64 a2, .int .i64 a3, .int .u64 a4, .int .i64 a5, .int .i64 a6, .int .i64 a7, .int .i64 a8, .int .i64 a9, .int .u64 a10, .int .i64 a11, .int .i64 a12, .int .i64 a13, .int .i64 a14, .int .i64 a15, .int .i64 a16, .int .i64 a17, .int .u64 a18, .int .i64 a19, .int .i64 a20] : Array Value).all (·.oneCell') = true := all_oneCell_toArray (by repeat (first | exact List.forall_mem_nil _ | refine List.forall_mem_cons.2 ⟨rfl, ?_⟩))
  clear hZ1 hW1 hr1 hB3 hZ3 hW3 hN
  rw [hz]
  go_wp2_with (first
    | (refine wpList_store_mid rfl 28 _ _ rfl _ 0 _ rfl rfl hthN info21 honeL ?_; refine wpList_gen (fun W => Blk W w3.heap.size 28 [.int .i64 a0, .int .i64 a1, .int .i64 a2, .int .i64 a3, .int .u64 a4, .int .i64 a5, .int .i64 a6, .int .i64 a7, .int .i64 a8, .int .i64 a9, .int .u64 a10, .int .i64 a11, .int .i64 a12, .int .i64 a13, .int .i64 a14, .int .i64 a15, .int .i64 a16, .int .i64 a17, .int .u64 a18, .int .i64 a19, .int .i64 a20] ∧ Blk W w.heap.size 28 [.int .i64 0, .int .i64 0, .int .i64 0, .int .i64 0, .int .u64 0, .int .i64 0, .int .i64 0, .int .i64 0, .int .i64 0, .int .i64 0, .int .u64 0, .int .i64 0, .int .i64 0, .int .i64 0, .int .i64 0, .int .i64 0, .int .i64 0, .int .i64 0, .int .u64 0, .int .i64 0, .int .i64 0] ∧ Below w.heap.size w W) HPN.out ?_; rintro W4 ⟨hN4, hZ4, hW4⟩; have hrg := range21 hN4)
    | (refine wpList_store_mid rfl 28 _ _ rfl _ 0 _ rfl rfl (there21 hZ4 rfl) info21 one_zero ?_; refine wpList_gen (fun W => Blk W w.heap.size 28 [.int .i64 0, .int .i64 0, .int .i64 0, .int .i64 0, .int .u64 0, .int .i64 0, .int .i64 0, .int .i64 0, .int .i64 0, .int .i64 0, .int .u64 0, .int .i64 0, .int .i64 0, .int .i64 0, .int .i64 0, .int .i64 0, .int .i64 0, .int .i64 0, .int .u64 0, .int .i64 0, .int .i64 0] ∧ Below w.heap.size w W) ⟨blk_setCells [.int .i64 0, .int .i64 0, .int .i64 0, .int .i64 0, .int .u64 0, .int .i64 0, .int .i64 0, .int .i64 0, .int .i64 0, .int .i64 0, .int .u64 0, .int .i64 0, .int .i64 0, .int .i64 0, .int .i64 0, .int .i64 0, .int .i64 0, .int .i64 0, .int .u64 0, .int .i64 0, .int .i64 0] [] [.int .i64 0, .int .i64 0, .int .i64 0, .int .i64 0, .int .u64 0, .int .i64 0, .int .i64 0, .int .i64 0, .int .i64 0, .int .i64 0, .int .u64 0, .int .i64 0, .int .i64 0, .int .i64 0, .int .i64 0, .int .i64 0, .int .i64 0, .int .i64 0, .int .u64 0, .int .i64 0, .int .i64 0] _ hZ4 rfl, below_setCells (Nat.le_refl w.heap.size) [.int .i64 0, .int .i64 0, .int .i64 0, .int .i64 0, .int .u64 0, .int .i64 0, .int .i64 0, .int .i64 0, .int .i64 0, .int .i64 0, .int .u64 0, .int .i64 0, .int .i64 0, .int .i64 0, .int .i64 0, .int .i64 0, .int .i64 0, .int .i64 0, .int .u64 0, .int .i64 0, .int .i64 0] 0 _ hW4⟩ ?_; rintro Wf ⟨hZf, hWf⟩))
  exact bodyPost_ret (results21 rfl rfl rfl hZf rfl) rfl ⟨rfl, hWf⟩

set_option maxHeartbeats 1000000 in
theorem dec_bad (b o : Nat) (m c : Nat) (bs : List UInt8) (w : World) (h : RB w (some ⟨b, o, none⟩) m c bs) (hm : 34 ≤ m) (hm2 : m ≤ 70000000000000) (sz : Int) (hsz : sizeOfKind (kindOf bs) = sz) (h0 : (sz == 0) = false) (hv : num bs 1 1 = 2) (hs : sz = (m : Int)) (hf : (num bs 2 2 : Int) = sz) (a0 a1 a2 a3 a4 a5 a6 a7 a8 a9 a10 a11 a12 a13 a14 a15 a16 a17 a18 a19 a20 : Int) (hp : ptpOf bs = ⟨a0, a1, a2, a3, a4, a5, a6, a7, a8, a9, a10, a11, a12, a13, a14, a15, a16, a17, a18, a19, a20⟩) (hak : -9223372036854775808 ≤ a0 ∧ a0 ≤ 9223372036854775807) (hz : (zeroOr bs == 0) = true) (r : Int) (hck : ptpCheck ⟨a0, a1, a2, a3, a4, a5, a6, a7, a8, a9, a10, a11, a12, a13, a14, a15, a16, a17, a18, a19, a20⟩ = r) (hr0 : (r != 0) = true) : Calls Try.prog 17 #[.slice (some ⟨b, o, none⟩) m c] w (DecEnd w Ptp.zero r) := by
  have HPv := hide (show (ptpOf bs).val = .agg #[.int .i64 a0, .int .i64 a1, .int .i64 a2, .int .i64 a3, .int .u64 a4, .int .i64 a5, .int .i64 a6, .int .i64 a7, .int .i64 a8, .int .i64 a9, .int .u64 a10, .int .i64 a11, .int .i64 a12, .int .i64 a13, .int .i64 a14, .int .i64 a15, .int .i64 a16, .int .i64 a17, .int .u64 a18, .int .i64 a19, .int .i64 a20] by rw [hp]; rfl)
  have HRd := hide (fun w (h : RB w (some ⟨b, o, none⟩) m c bs) => read_any (some ⟨b, o, none⟩) m c bs w h (by
    rcases size_cases (kindOf bs) with e | e | e | e
    · rw [hsz] at e; subst e; simp at h0
    all_goals omega) (by rw [hsz, hs]))
  have hl := h.len
  have hcp := h.cap
  have hmx := h.max
  have Hl := hide hl
  have hkr := kindOf_range bs (by omega)
  have HS := hide (fun w => size_any (kindOf bs) w (by omega))
  rw [hsz] at HS
  have hZ := Blk.new w 28 [.int .i64 0, .int .i64 0, .int .i64 0, .int .i64 0, .int .u64 0, .int .i64 0, .int .i64 0, .int .i64 0, .int .i64 0, .int .i64 0, .int .u64 0, .int .i64 0, .int .i64 0, .int .i64 0, .int .i64 0, .int .i64 0, .int .i64 0, .int .i64 0, .int .u64 0, .int .i64 0, .int .i64 0]
  have hA := (Below.refl w.heap.size w).alloc (Nat.le_refl _) (.cells #[.int .i64 0, .int .i64 0, .int .i64 0, .int .i64 0, .int .u64 0, .int .i64 0, .int .i64 0, .int .i64 0, .int .i64 0, .int .i64 0, .int .u64 0, .int .i64 0, .int .i64 0, .int .i64 0, .int .i64 0, .int .i64 0, .int .i64 0, .int .i64 0, .int .u64 0, .int .i64 0, .int .i64 0] 28)
  have h1 := h.alloc (.cells #[.int .i64 0, .int .i64 0, .int .i64 0, .int .i64 0, .int .u64 0, .int .i64 0, .int .i64 0, .int .i64 0, .int .i64 0, .int .i64 0, .int .u64 0, .int .i64 0, .int .i64 0, .int .i64 0, .int .i64 0, .int .i64 0, .int .i64 0, .int .i64 0, .int .u64 0, .int .i64 0, .int .i64 0] 28)
  have ek : kindOf bs = ((nth bs 0).toNat : Int) := by
    have := num_one bs 0 (by omega)
    show ((num bs 0 1 : Nat) : Int) = _
    rw [this]
  obtain ⟨b1, o1, e1, k0⟩ := h1.at_ 0 (by omega)
  injection e1 with e1
  injection e1 with e2 e3 e4
  subst e2 e3
  rw [← ek, Nat.add_zero] at k0
  have h34 : ¬ (m : Int) < 34 := by omega
  have Hcases := hide (size_cases (kindOf bs))
  rw [hsz] at Hcases
  have Hsz := hide hsz
  clear hl hsz e4 ek
  generalize kindOf bs = K at *
  go_enter Try.func17, Try.ntmps17
  go_wp2_with fail
  refine (HS.out _).mono ?_
  rintro e w1 ⟨rfl, hB1⟩
  have hZ1 := hZ.below' hB1
  have hW1 := below_step hA hB1 hA.size
  have hr1 := h1.below hB1
  clear k0 hZ hA h1 hB1
  have HC := hide (fun w => ptpCheck_any ⟨a0, a1, a2, a3, a4, a5, a6, a7, a8, a9, a10, a11, a12, a13, a14, a15, a16, a17, a18, a19, a20⟩ w hak)
  rw [hck] at HC
  unfold Ptp.val Ptp.cells at HC
  dsimp only at HC
  obtain ⟨b1, o1, e1, k1⟩ := hr1.at_ 1 (by have := Hl.out; omega)
  injection e1 with e1
  injection e1 with e2 e3 e4
  subst e2 e3
  have en := num_one bs 1 (by have := Hl.out; omega)
  rw [hv] at en
  rw [show ((nth bs 1).toNat : Int) = 2 by omega] at k1
  clear en hv
  go_wp2_with fail
  refine (get_any (some ⟨b, o, none⟩) m c bs 2 2 w1 hr1 (by omega) (by omega) (by omega) (by omega)).mono ?_
  rintro e w2 ⟨rfl, rfl⟩
  rw [show ofBe (sub bs (Int.toNat 2) (Int.toNat 2)) = num bs 2 2 from rfl]
  have hn2 := num_lt bs 2 2 (by have := Hl.out; omega)
  simp only [Nat.reducePow] at hn2
  clear k1
  rw [hf]
  go_wp2_with fail
  refine (HRd.out w1 hr1).mono ?_
  rintro e w3 ⟨rfl, hB3⟩
  rw [HPv.out]
  have hZ3 := hZ1.below' hB3
  have hW3 := below_step hW1 hB3 hW1.size
  have hN := Blk.new w3 28 [.int .i64 0, .int .i64 0, .int .i64 0, .int .i64 0, .int .u64 0, .int .i64 0, .int .i64 0, .int .i64 0, .int .i64 0, .int .i64 0, .int .u64 0, .int .i64 0, .int .i64 0, .int .i64 0, .int .i64 0, .int .i64 0, .int .i64 0, .int .i64 0, .int .u64 0, .int .i64 0, .int .i64 0]
  have hthN := there21 hN rfl
  have hne : w.heap.size ≠ w3.heap.size := Nat.ne_of_lt hZ3.lt
  have hwl : w.heap.size ≤ w3.heap.size := hW3.size
  have HPN := hide (⟨blk_setCells [.int .i64 a0, .int .i64 a1, .int .i64 a2, .int .i64 a3, .int .u64 a4, .int .i64 a5, .int .i64 a6, .int .i64 a7, .int .i64 a8, .int .i64 a9, .int .u64 a10, .int .i64 a11, .int .i64 a12, .int .i64 a13, .int .i64 a14, .int .i64 a15, .int .i64 a16, .int .i64 a17, .int .u64 a18, .int .i64 a19, .int .i64 a20] [] [.int .i64 0, .int .i64 0, .int .i64 0, .int .i64 0, .int .u64 0, .int .i64 0, .int .i64 0, .int .i64 0, .int .i64 0, .int .i64 0, .int .u64 0, .int .i64 0, .int .i64 0, .int .i64 0, .int .i64 0, .int .i64 0, .int .i64 0, .int .i64 0, .int .u64 0, .int .i64 0, .int .i64 0] _ hN rfl, blk_farCells hne [.int .i64 a0, .int .i64 a1, .int .i64 a2, .int .i64 a3, .int .u64 a4, .int .i64 a5, .int .i64 a6, .int .i64 a7, .int .i64 a8, .int .i64 a9, .int .u64 a10, .int .i64 a11, .int .i64 a12, .int .i64 a13, .int .i64 a14, .int .i64 a15, .int .i64 a16, .int .i64 a17, .int .u64 a18, .int .i64 a19, .int .i64 a20] 0 _ (hZ3.alloc (.cells #[.int .i64 0, .int .i64 0, .int .i64 0, .int .i64 0, .int .u64 0, .int .i64 0, .int .i64 0, .int .i64 0, .int .i64 0, .int .i64 0, .int .u64 0, .int .i64 0, .int .i64 0, .int .i64 0, .int .i64 0, .int .i64 0, .int .i64 0, .int .i64 0, .int .u64 0, .int .i64 0, .int .i64 0] 28)), below_setCells hwl [.int .i64 a0, .int .i64 a1, .int .i64 a2, .int .i64 a3, .int .u64 a4, .int .i64 a5, .int .i64 a6, .int .i64 a7, .int .i64 a8, .int .i64 a9, .int .u64 a10, .int .i64 a11, .int .i64 a12, .int .i64 a13, .int .i64 a14, .int .i64 a15, .int .i64 a16, .int .i64 a17, .int .u64 a18, .int .i64 a19, .int .i64 a20] 0 _ (hW3.alloc hwl (.cells #[.int .i64 0, .int .i64 0, .int .i64 0, .int .i64 0, .int .u64 0, .int .i64 0, .int .i64 0, .int .i64 0, .int .i64 0, .int .i64 0, .int .u64 0, .int .i64 0, .int .i64 0, .int .i64 0, .int .i64 0, .int .i64 0, .int .i64 0, .int .i64 0, .int .u64 0, .int .i64 0, .int .i64 0] 28))⟩ : _ ∧ _ ∧ _)
  have honeL : (#[.int .i64 a0, .int .i64 a1, .int .i64 a2, .int .i64 a3, .int .u64 a4, .int .i64 a5, .int .i64 a6, .int .i64 a7, .int .i64 a8, .int .i64 a9, .int .u64 a10, .int .i64 a11, .int .i64 a12, .int .i64 a13, .int .i64 a14, .int .i64 a15, .int .i64 a16, .int .i64 a17, .int .u64 a18, .int .i64 a19, .int .i64 a20] : Array Value).all (·.oneCell') = true := all_oneCell_toArray (by repeat (first | exact List.forall_mem_nil _ | refine List.forall_mem_cons.2 ⟨rfl, ?_⟩))
  clear hZ1 hW1 hr1 hB3 hZ3 hW3 hN
  rw [hz]
  go_wp2_with (first
    | (go_at_call 9; refine (HC.out W4).mono ?_; rintro e w5 ⟨rfl, hB5⟩; have hZ5 := hZ4.below' hB5; have hW5 := below_step hW4 hB5 hW4.size; have hN5 := hN4.below' hB5; clear hrg; have hrg := range21 hN5)
    | (refine wpList_store_mid rfl 28 _ _ rfl _ 0 _ rfl rfl hthN info21 honeL ?_; refine wpList_gen (fun W => Blk W w3.heap.size 28 [.int .i64 a0, .int .i64 a1, .int .i64 a2, .int .i64 a3, .int .u64 a4, .int .i64 a5, .int .i64 a6, .int .i64 a7, .int .i64 a8, .int .i64 a9, .int .u64 a10, .int .i64 a11, .int .i64 a12, .int .i64 a13, .int .i64 a14, .int .i64 a15, .int .i64 a16, .int .i64 a17, .int .u64 a18, .int .i64 a19, .int .i64 a20] ∧ Blk W w.heap.size 28 [.int .i64 0, .int .i64 0, .int .i64 0, .int .i64 0, .int .u64 0, .int .i64 0, .int .i64 0, .int .i64 0, .int .i64 0, .int .i64 0, .int .u64 0, .int .i64 0, .int .i64 0, .int .i64 0, .int .i64 0, .int .i64 0, .int .i64 0, .int .i64 0, .int .u64 0, .int .i64 0, .int .i64 0] ∧ Below w.heap.size w W) HPN.out ?_; rintro W4 ⟨hN4, hZ4, hW4⟩; have hrg := range21 hN4)
    | (refine wpList_load_mid rfl 28 _ rfl _ 0 rfl _ _ hrg Try.underlying28 rfl info21 ?_)
    | (refine wpList_store_mid rfl 28 _ _ rfl _ 0 _ rfl rfl (there21 hZ5 rfl) info21 one_zero ?_; refine wpList_gen (fun W => Blk W w.heap.size 28 [.int .i64 0, .int .i64 0, .int .i64 0, .int .i64 0, .int .u64 0, .int .i64 0, .int .i64 0, .int .i64 0, .int .i64 0, .int .i64 0, .int .u64 0, .int .i64 0, .int .i64 0, .int .i64 0, .int .i64 0, .int .i64 0, .int .i64 0, .int .i64 0, .int .u64 0, .int .i64 0, .int .i64 0] ∧ Below w.heap.size w W) ⟨blk_setCells [.int .i64 0, .int .i64 0, .int .i64 0, .int .i64 0, .int .u64 0, .int .i64 0, .int .i64 0, .int .i64 0, .int .i64 0, .int .i64 0, .int .u64 0, .int .i64 0, .int .i64 0, .int .i64 0, .int .i64 0, .int .i64 0, .int .i64 0, .int .i64 0, .int .u64 0, .int .i64 0, .int .i64 0] [] [.int .i64 0, .int .i64 0, .int .i64 0, .int .i64 0, .int .u64 0, .int .i64 0, .int .i64 0, .int .i64 0, .int .i64 0, .int .i64 0, .int .u64 0, .int .i64 0, .int .i64 0, .int .i64 0, .int .i64 0, .int .i64 0, .int .i64 0, .int .i64 0, .int .u64 0, .int .i64 0, .int .i64 0] _ hZ5 rfl, below_setCells (Nat.le_refl w.heap.size) [.int .i64 0, .int .i64 0, .int .i64 0, .int .i64 0, .int .u64 0, .int .i64 0, .int .i64 0, .int .i64 0, .int .i64 0, .int .i64 0, .int .u64 0, .int .i64 0, .int .i64 0, .int .i64 0, .int .i64 0, .int .i64 0, .int .i64 0, .int .i64 0, .int .u64 0, .int .i64 0, .int .i64 0] 0 _ hW5⟩ ?_; rintro Wf ⟨hZf, hWf⟩))
  exact bodyPost_ret (results21 rfl rfl rfl hZf rfl) rfl ⟨rfl, hWf⟩

set_option maxHeartbeats 1000000 in
theorem dec_ok (b o : Nat) (m c : Nat) (bs : List UInt8) (w : World) (h : RB w (some ⟨b, o, none⟩) m c bs) (hm : 34 ≤ m) (hm2 : m ≤ 70000000000000) (sz : Int) (hsz : sizeOfKind (kindOf bs) = sz) (h0 : (sz == 0) = false) (hv : num bs 1 1 = 2) (hs : sz = (m : Int)) (hf : (num bs 2 2 : Int) = sz) (a0 a1 a2 a3 a4 a5 a6 a7 a8 a9 a10 a11 a12 a13 a14 a15 a16 a17 a18 a19 a20 : Int) (hp : ptpOf bs = ⟨a0, a1, a2, a3, a4, a5, a6, a7, a8, a9, a10, a11, a12, a13, a14, a15, a16, a17, a18, a19, a20⟩) (hak : -9223372036854775808 ≤ a0 ∧ a0 ≤ 9223372036854775807) (hz : (zeroOr bs == 0) = true) (hck : ptpCheck ⟨a0, a1, a2, a3, a4, a5, a6, a7, a8, a9, a10, a11, a12, a13, a14, a15, a16, a17, a18, a19, a20⟩ = 0) : Calls Try.prog 17 #[.slice (some ⟨b, o, none⟩) m c] w (DecEnd w ⟨a0, a1, a2, a3, a4, a5, a6, a7, a8, a9, a10, a11, a12, a13, a14, a15, a16, a17, a18, a19, a20⟩ 0) := by
  have HPv := hide (show (ptpOf bs).val = .agg #[.int .i64 a0, .int .i64 a1, .int .i64 a2, .int .i64 a3, .int .u64 a4, .int .i64 a5, .int .i64 a6, .int .i64 a7, .int .i64 a8, .int .i64 a9, .int .u64 a10, .int .i64 a11, .int .i64 a12, .int .i64 a13, .int .i64 a14, .int .i64 a15, .int .i64 a16, .int .i64 a17, .int .u64 a18, .int .i64 a19, .int .i64 a20] by rw [hp]; rfl)
  have HRd := hide (fun w (h : RB w (some ⟨b, o, none⟩) m c bs) => read_any (some ⟨b, o, none⟩) m c bs w h (by
    rcases size_cases (kindOf bs) with e | e | e | e
    · rw [hsz] at e; subst e; simp at h0
    all_goals omega) (by rw [hsz, hs]))
  have hl := h.len
  have hcp := h.cap
  have hmx := h.max
  have Hl := hide hl
  have hkr := kindOf_range bs (by omega)
  have HS := hide (fun w => size_any (kindOf bs) w (by omega))
  rw [hsz] at HS
  have hZ := Blk.new w 28 [.int .i64 0, .int .i64 0, .int .i64 0, .int .i64 0, .int .u64 0, .int .i64 0, .int .i64 0, .int .i64 0, .int .i64 0, .int .i64 0, .int .u64 0, .int .i64 0, .int .i64 0, .int .i64 0, .int .i64 0, .int .i64 0, .int .i64 0, .int .i64 0, .int .u64 0, .int .i64 0, .int .i64 0]
  have hA := (Below.refl w.heap.size w).alloc (Nat.le_refl _) (.cells #[.int .i64 0, .int .i64 0, .int .i64 0, .int .i64 0, .int .u64 0, .int .i64 0, .int .i64 0, .int .i64 0, .int .i64 0, .int .i64 0, .int .u64 0, .int .i64 0, .int .i64 0, .int .i64 0, .int .i64 0, .int .i64 0, .int .i64 0, .int .i64 0, .int .u64 0, .int .i64 0, .int .i64 0] 28)
  have h1 := h.alloc (.cells #[.int .i64 0, .int .i64 0, .int .i64 0, .int .i64 0, .int .u64 0, .int .i64 0, .int .i64 0, .int .i64 0, .int .i64 0, .int .i64 0, .int .u64 0, .int .i64 0, .int .i64 0, .int .i64 0, .int .i64 0, .int .i64 0, .int .i64 0, .int .i64 0, .int .u64 0, .int .i64 0, .int .i64 0] 28)
  have ek : kindOf bs = ((nth bs 0).toNat : Int) := by
    have := num_one bs 0 (by omega)
    show ((num bs 0 1 : Nat) : Int) = _
    rw [this]
  obtain ⟨b1, o1, e1, k0⟩ := h1.at_ 0 (by omega)
  injection e1 with e1
  injection e1 with e2 e3 e4
  subst e2 e3
  rw [← ek, Nat.add_zero] at k0
  have h34 : ¬ (m : Int) < 34 := by omega
  have Hcases := hide (size_cases (kindOf bs))
  rw [hsz] at Hcases
  have Hsz := hide hsz
  clear hl hsz e4 ek
  generalize kindOf bs = K at *
  go_enter Try.func17, Try.ntmps17
  go_wp2_with fail
  refine (HS.out _).mono ?_
  rintro e w1 ⟨rfl, hB1⟩
  have hZ1 := hZ.below' hB1
  have hW1 := below_step hA hB1 hA.size
  have hr1 := h1.below hB1
  clear k0 hZ hA h1 hB1
  have HC := hide (fun w => ptpCheck_any ⟨a0, a1, a2, a3, a4, a5, a6, a7, a8, a9, a10, a11, a12, a13, a14, a15, a16, a17, a18, a19, a20⟩ w hak)
  rw [hck] at HC
  unfold Ptp.val Ptp.cells at HC
  dsimp only at HC
  obtain ⟨b1, o1, e1, k1⟩ := hr1.at_ 1 (by have := Hl.out; omega)
  injection e1 with e1
  injection e1 with e2 e3 e4
  subst e2 e3
  have en := num_one bs 1 (by have := Hl.out; omega)
  rw [hv] at en
  rw [show ((nth bs 1).toNat : Int) = 2 by omega] at k1
  clear en hv
  go_wp2_with fail
  refine (get_any (some ⟨b, o, none⟩) m c bs 2 2 w1 hr1 (by omega) (by omega) (by omega) (by omega)).mono ?_
  rintro e w2 ⟨rfl, rfl⟩
  rw [show ofBe (sub bs (Int.toNat 2) (Int.toNat 2)) = num bs 2 2 from rfl]
  have hn2 := num_lt bs 2 2 (by have := Hl.out; omega)
  simp only [Nat.reducePow] at hn2
  clear k1
  rw [hf]
  go_wp2_with fail
  refine (HRd.out w1 hr1).mono ?_
  rintro e w3 ⟨rfl, hB3⟩
  rw [HPv.out]
  have hZ3 := hZ1.below' hB3
  have hW3 := below_step hW1 hB3 hW1.size
  have hN := Blk.new w3 28 [.int .i64 0, .int .i64 0, .int .i64 0, .int .i64 0, .int .u64 0, .int .i64 0, .int .i64 0, .int .i64 0, .int .i64 0, .int .i64 0, .int .u64 0, .int .i64 0, .int .i64 0, .int .i64 0, .int .i64 0, .int .i64 0, .int .i64 0, .int .i64 0, .int .u64 0, .int .i64 0, .int .i64 0]
  have hthN := there21 hN rfl
  have hne : w.heap.size ≠ w3.heap.size := Nat.ne_of_lt hZ3.lt
  have hwl : w.heap.size ≤ w3.heap.size := hW3.size
  have HPN := hide (⟨blk_setCells [.int .i64 a0, .int .i64 a1, .int .i64 a2, .int .i64 a3, .int .u64 a4, .int .i64 a5, .int .i64 a6, .int .i64 a7, .int .i64 a8, .int .i64 a9, .int .u64 a10, .int .i64 a11, .int .i64 a12, .int .i64 a13, .int .i64 a14, .int .i64 a15, .int .i64 a16, .int .i64 a17, .int .u64 a18, .int .i64 a19, .int .i64 a20] [] [.int .i64 0, .int .i64 0, .int .i64 0, .int .i64 0, .int .u64 0, .int .i64 0, .int .i64 0, .int .i64 0, .int .i64 0, .int .i64 0, .int .u64 0, .int .i64 0, .int .i64 0, .int .i64 0, .int .i64 0, .int .i64 0, .int .i64 0, .int .i64 0, .int .u64 0, .int .i64 0, .int .i64 0] _ hN rfl, blk_farCells hne [.int .i64 a0, .int .i64 a1, .int .i64 a2, .int .i64 a3, .int .u64 a4, .int .i64 a5, .int .i64 a6, .int .i64 a7, .int .i64 a8, .int .i64 a9, .int .u64 a10, .int .i64 a11, .int .i64 a12, .int .i64 a13, .int .i64 a14, .int .i64 a15, .int .i64 a16, .int .i64 a17, .int .u64 a18, .int .i64 a19, .int .i64 a20] 0 _ (hZ3.alloc (.cells #[.int .i64 0, .int .i64 0, .int .i64 0, .int .i64 0, .int .u64 0, .int .i64 0, .int .i64 0, .int .i64 0, .int .i64 0, .int .i64 0, .int .u64 0, .int .i64 0, .int .i64 0, .int .i64 0, .int .i64 0, .int .i64 0, .int .i64 0, .int .i64 0, .int .u64 0, .int .i64 0, .int .i64 0] 28)), below_setCells hwl [.int .i64 a0, .int .i64 a1, .int .i64 a2, .int .i64 a3, .int .u64 a4, .int .i64 a5, .int .i64 a6, .int .i64 a7, .int .i64 a8, .int .i64 a9, .int .u64 a10, .int .i64 a11, .int .i64 a12, .int .i64 a13, .int .i64 a14, .int .i64 a15, .int .i64 a16, .int .i64 a17, .int .u64 a18, .int .i64 a19, .int .i64 a20] 0 _ (hW3.alloc hwl (.cells #[.int .i64 0, .int .i64 0, .int .i64 0, .int .i64 0, .int .u64 0, .int .i64 0, .int .i64 0, .int .i64 0, .int .i64 0, .int .i64 0, .int .u64 0, .int .i64 0, .int .i64 0, .int .i64 0, .int .i64 0, .int .i64 0, .int .i64 0, .int .i64 0, .int .u64 0, .int .i64 0, .int .i64 0] 28))⟩ : _ ∧ _ ∧ _)
  have honeL : (#[.int .i64 a0, .int .i64 a1, .int .i64 a2, .int .i64 a3, .int .u64 a4, .int .i64 a5, .int .i64 a6, .int .i64 a7, .int .i64 a8, .int .i64 a9, .int .u64 a10, .int .i64 a11, .int .i64 a12, .int .i64 a13, .int .i64 a14, .int .i64 a15, .int .i64 a16, .int .i64 a17, .int .u64 a18, .int .i64 a19, .int .i64 a20] : Array Value).all (·.oneCell') = true := all_oneCell_toArray (by repeat (first | exact List.forall_mem_nil _ | refine List.forall_mem_cons.2 ⟨rfl, ?_⟩))
  clear hZ1 hW1 hr1 hB3 hZ3 hW3 hN
  rw [hz]
  go_wp2_with (first
    | (go_at_call 9; refine (HC.out W4).mono ?_; rintro e w5 ⟨rfl, hB5⟩; have hZ5 := hZ4.below' hB5; have hW5 := below_step hW4 hB5 hW4.size; have hN5 := hN4.below' hB5; clear hrg; have hrg := range21 hN5)
    | (refine wpList_store_mid rfl 28 _ _ rfl _ 0 _ rfl rfl hthN info21 honeL ?_; refine wpList_gen (fun W => Blk W w3.heap.size 28 [.int .i64 a0, .int .i64 a1, .int .i64 a2, .int .i64 a3, .int .u64 a4, .int .i64 a5, .int .i64 a6, .int .i64 a7, .int .i64 a8, .int .i64 a9, .int .u64 a10, .int .i64 a11, .int .i64 a12, .int .i64 a13, .int .i64 a14, .int .i64 a15, .int .i64 a16, .int .i64 a17, .int .u64 a18, .int .i64 a19, .int .i64 a20] ∧ Blk W w.heap.size 28 [.int .i64 0, .int .i64 0, .int .i64 0, .int .i64 0, .int .u64 0, .int .i64 0, .int .i64 0, .int .i64 0, .int .i64 0, .int .i64 0, .int .u64 0, .int .i64 0, .int .i64 0, .int .i64 0, .int .i64 0, .int .i64 0, .int .i64 0, .int .i64 0, .int .u64 0, .int .i64 0, .int .i64 0] ∧ Below w.heap.size w W) HPN.out ?_; rintro W4 ⟨hN4, hZ4, hW4⟩; have hrg := range21 hN4)
    | (refine wpList_load_mid rfl 28 _ rfl _ 0 rfl _ _ hrg Try.underlying28 rfl info21 ?_)
    | (refine wpList_store_mid rfl 28 _ _ rfl _ 0 _ rfl rfl (there21 hZ5 rfl) info21 honeL ?_; refine wpList_gen (fun W => Blk W w.heap.size 28 [.int .i64 a0, .int .i64 a1, .int .i64 a2, .int .i64 a3, .int .u64 a4, .int .i64 a5, .int .i64 a6, .int .i64 a7, .int .i64 a8, .int .i64 a9, .int .u64 a10, .int .i64 a11, .int .i64 a12, .int .i64 a13, .int .i64 a14, .int .i64 a15, .int .i64 a16, .int .i64 a17, .int .u64 a18, .int .i64 a19, .int .i64 a20] ∧ Below w.heap.size w W) ⟨blk_setCells [.int .i64 a0, .int .i64 a1, .int .i64 a2, .int .i64 a3, .int .u64 a4, .int .i64 a5, .int .i64 a6, .int .i64 a7, .int .i64 a8, .int .i64 a9, .int .u64 a10, .int .i64 a11, .int .i64 a12, .int .i64 a13, .int .i64 a14, .int .i64 a15, .int .i64 a16, .int .i64 a17, .int .u64 a18, .int .i64 a19, .int .i64 a20] [] [.int .i64 0, .int .i64 0, .int .i64 0, .int .i64 0, .int .u64 0, .int .i64 0, .int .i64 0, .int .i64 0, .int .i64 0, .int .i64 0, .int .u64 0, .int .i64 0, .int .i64 0, .int .i64 0, .int .i64 0, .int .i64 0, .int .i64 0, .int .i64 0, .int .u64 0, .int .i64 0, .int .i64 0] _ hZ5 rfl, below_setCells (Nat.le_refl w.heap.size) [.int .i64 a0, .int .i64 a1, .int .i64 a2, .int .i64 a3, .int .u64 a4, .int .i64 a5, .int .i64 a6, .int .i64 a7, .int .i64 a8, .int .i64 a9, .int .u64 a10, .int .i64 a11, .int .i64 a12, .int .i64 a13, .int .i64 a14, .int .i64 a15, .int .i64 a16, .int .i64 a17, .int .u64 a18, .int .i64 a19, .int .i64 a20] 0 _ hW5⟩ ?_; rintro Wf ⟨hZf, hWf⟩))
  exact bodyPost_ret (results21 rfl rfl rfl hZf rfl) rfl ⟨rfl, hWf⟩

theorem ptpDecode_any (A : Option Addr) (m c : Nat) (bs : List UInt8) (w : World) (h : RB w A m c bs) (hm2 : m ≤ 70000000000000) : Calls Try.prog 17 #[.slice A m c] w fun e w' => e = .returned (.tuple #[(ptpGot bs).val, .int .i64 (ptpErr bs)]) ∧ Below w.heap.size w w' := by
  have hl := h.len
  show Calls Try.prog 17 #[.slice A m c] w (DecEnd w (ptpGot bs) (ptpErr bs))
  have bad : ∀ err : Int, err ≠ 0 → ptpErr bs = err → Calls Try.prog 17 #[.slice A m c] w (DecEnd w Ptp.zero err) → Calls Try.prog 17 #[.slice A m c] w (DecEnd w (ptpGot bs) (ptpErr bs)) := by
    intro err h0 he hc
    unfold ptpGot
    rw [he, if_neg h0]
    exact hc
  by_cases c0 : m < 34
  · exact bad 5 (by omega) (by unfold ptpErr; rw [if_pos (by omega)]) (dec_short A m c bs w h c0)
  obtain ⟨b, o, rfl, _⟩ := h.cells (by omega)
  by_cases c1 : sizeOfKind (kindOf bs) = 0
  · exact bad 8 (by omega) (by unfold ptpErr; rw [if_neg (by omega), if_pos (.inl c1)]) (dec_kind0 b o m c bs w h (by omega) hm2 0 c1 rfl)
  have c1' : (sizeOfKind (kindOf bs) == 0) = false := by simpa using c1
  by_cases c2 : num bs 1 1 = 2
  · have c12 : ¬ (sizeOfKind (kindOf bs) = 0 ∨ num bs 1 1 ≠ 2) := by rintro (e | e) <;> contradiction
    by_cases c3 : (m : Int) < sizeOfKind (kindOf bs)
    · exact bad 5 (by omega) (by unfold ptpErr; rw [if_neg (by omega), if_neg c12, if_pos (by rw [hl]; exact c3)]) (dec_short2 b o m c bs w h (by omega) hm2 _ rfl c1' c2 c3)
    by_cases c4 : (num bs 2 2 : Int) = sizeOfKind (kindOf bs)
    · by_cases c5 : sizeOfKind (kindOf bs) < (m : Int)
      · exact bad 6 (by omega) (by unfold ptpErr; rw [if_neg (by omega), if_neg c12, if_neg (by rw [hl]; exact c3), if_neg (by simpa using c4), if_pos (by rw [hl]; exact c5)]) (dec_long b o m c bs w h (by omega) hm2 _ rfl c1' c2 c3 c4 c5)
      have c6 : sizeOfKind (kindOf bs) = (m : Int) := by omega
      have hE : ptpErr bs = if zeroOr bs ≠ 0 then 7 else ptpCheck (ptpOf bs) := by
        unfold ptpErr
        rw [if_neg (by omega), if_neg c12, if_neg (by rw [hl]; exact c3), if_neg (by simpa using c4), if_neg (by rw [hl]; exact c5)]
      have hkr := kindOf_range bs (by omega)
      have hk0 : (ptpOf bs).kind = kindOf bs := rfl
      obtain ⟨a0, a1, a2, a3, a4, a5, a6, a7, a8, a9, a10, a11, a12, a13, a14, a15, a16, a17, a18, a19, a20, hp⟩ : ∃ a0 a1 a2 a3 a4 a5 a6 a7 a8 a9 a10 a11 a12 a13 a14 a15 a16 a17 a18 a19 a20 : Int, ptpOf bs = ⟨a0, a1, a2, a3, a4, a5, a6, a7, a8, a9, a10, a11, a12, a13, a14, a15, a16, a17, a18, a19, a20⟩ := ⟨_, _, _, _, _, _, _, _, _, _, _, _, _, _, _, _, _, _, _, _, _, rfl⟩
      have hak : -9223372036854775808 ≤ a0 ∧ a0 ≤ 9223372036854775807 := by
        rw [hp] at hk0
        dsimp only at hk0
        omega
      by_cases c7 : zeroOr bs = 0
      · have c7' : (zeroOr bs == 0) = true := by simpa using c7
        have hE2 : ptpErr bs = ptpCheck ⟨a0, a1, a2, a3, a4, a5, a6, a7, a8, a9, a10, a11, a12, a13, a14, a15, a16, a17, a18, a19, a20⟩ := by rw [hE, if_neg (by simpa using c7), hp]
        by_cases c8 : ptpCheck ⟨a0, a1, a2, a3, a4, a5, a6, a7, a8, a9, a10, a11, a12, a13, a14, a15, a16, a17, a18, a19, a20⟩ = 0
        · unfold ptpGot
          rw [hE2, c8, if_pos rfl, hp]
          exact dec_ok b o m c bs w h (by omega) hm2 _ rfl c1' c2 c6 c4 a0 a1 a2 a3 a4 a5 a6 a7 a8 a9 a10 a11 a12 a13 a14 a15 a16 a17 a18 a19 a20 hp hak c7' c8
        · exact bad _ c8 hE2 (dec_bad b o m c bs w h (by omega) hm2 _ rfl c1' c2 c6 c4 a0 a1 a2 a3 a4 a5 a6 a7 a8 a9 a10 a11 a12 a13 a14 a15 a16 a17 a18 a19 a20 hp hak c7' _ rfl (by simpa using c8))
      · exact bad 7 (by omega) (by rw [hE, if_pos c7]) (dec_zero b o m c bs w h (by omega) hm2 _ rfl c1' c2 c6 c4 a0 a1 a2 a3 a4 a5 a6 a7 a8 a9 a10 a11 a12 a13 a14 a15 a16 a17 a18 a19 a20 hp (by simpa using c7))
    · exact bad 7 (by omega) (by unfold ptpErr; rw [if_neg (by omega), if_neg c12, if_neg (by rw [hl]; exact c3), if_pos c4]) (dec_form b o m c bs w h (by omega) hm2 _ rfl c1' c2 c3 (by simpa using c4))
  · exact bad 8 (by omega) (by unfold ptpErr; rw [if_neg (by omega), if_pos (.inr c2)]) (dec_kind1 b o m c bs w h (by omega) hm2 _ rfl c1' c2)
end Go.Proofs.Ytlobddhpkemklaa
