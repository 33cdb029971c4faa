/- The reference's Decode.
  SEATS: ptp -/
import Derived.Test.YtlobddhpkemklaaRefF
import Derived.Test.YtlobddhpkemklaaRefChk
import Derived.Test.YtlobddhpkemklaaTakeC
import Derived.Test.YtlobddhpkemklaaAwake33
namespace Go.Proofs.Ytlobddhpkemklaa
open Go.RowKit
set_option linter.unusedVariables false

theorem refSize_b (k : Int) (w : World) : Calls Try.prog 12 #[.int .i64 k] w fun e w' => e = .returned (.int .i64 (sizeOfKind k)) ∧ Below w.heap.size w w' := (refSize_any k w).mono (fun _ _ ⟨he, hw⟩ => ⟨he, hw ▸ Below.refl _ _⟩)

/-- get, its place and size read off the call. -/
theorem refGetI {b o m c : Nat} {bs : List UInt8} {p s : Int} {w : World} (L : Nat) (h : RB w (some ⟨b, o, none⟩) m c bs) (hL : L ≤ m) (hd : decide (0 ≤ p ∧ p ≤ 1000 ∧ 0 ≤ s ∧ s ≤ 8 ∧ p + s ≤ L) = true) :
    Calls Try.prog 36 #[.slice (some ⟨b, o, none⟩) m c, .int .i64 p, .int .i64 s] w fun e w' => e = .returned (.int .i64 (IntKind.i64.wrap (num bs p.toNat s.toNat : Nat))) ∧ w = w' := by
  obtain ⟨h1, h2, h3, h4, h5⟩ := of_decide_eq_true hd
  obtain ⟨p, rfl⟩ := Int.eq_ofNat_of_zero_le h1
  obtain ⟨s, rfl⟩ := Int.eq_ofNat_of_zero_le h3
  exact refGet_wrap b o m c bs p s w h (by omega) (by omega) (by omega)
theorem refIdI {b o m c : Nat} {bs : List UInt8} {p : Int} {w : World} (L : Nat) (h : RB w (some ⟨b, o, none⟩) m c bs) (hL : L ≤ m) (hd : decide (0 ≤ p ∧ p + 8 ≤ L) = true) :
    Calls Try.prog 38 #[.slice (some ⟨b, o, none⟩) m c, .int .i64 p] w fun e w' => e = .returned (.int .u64 (num bs p.toNat 8 : Nat)) ∧ w = w' := by
  obtain ⟨h1, h2⟩ := of_decide_eq_true hd
  obtain ⟨p, rfl⟩ := Int.eq_ofNat_of_zero_le h1
  exact refId_any _ m c bs p w h (by omega)
theorem ptp_one' (p : Ptp) : (p.cells.toArray : Array Value).all (·.oneCell') = true := all_oneCell_toArray (by unfold Ptp.cells; repeat (first | exact List.forall_mem_nil _ | refine List.forall_mem_cons.2 ⟨rfl, ?_⟩))
theorem there_at {w : World} {g t : Nat} {cs : List Value} (h : Blk w g t cs) (o n : Nat) (hl : o + n ≤ cs.length) : w.there g o n := fun j hj => ⟨by rw [h.cell, List.getElem?_eq_getElem (by omega)]; rfl, h.frozen _⟩
theorem rb_drew {A : Option Addr} {m c : Nat} {bs : List UInt8} {w : World} (h : RB w A m c bs) : RB w.drew A m c bs := h.below (Below.refl _ _).drew
theorem rb_cell {b o m c : Nat} {bs : List UInt8} {w : World} (h : RB w (some ⟨b, o, none⟩) m c bs) (i : Nat) (hi : i < bs.length) : w.cell? ⟨b, o + i, none⟩ = some (.int .u8 (num bs i 1 : Nat)) := by
  obtain ⟨b1, o1, e1, k⟩ := h.at_ i hi
  injection e1 with e1
  injection e1 with e2 e3 e4
  subst e2 e3
  rw [num_one bs i hi]
  exact k

theorem rdec_short (A : Option Addr) (m c : Nat) (bs : List UInt8) (w : World) (h : RB w A m c bs) (hm : m < 34) : Calls Try.prog 18 #[.slice A m c] w (DecEnd w Ptp.zero 5) := by
  have hZ := Blk.new w 28 [.int .i64 0, .int .i64 0, .int .i64 0, .int .i64 0, .int .u64 0, .int .i64 0, .int .i64 0, .int .i64 0, .int .i64 0, .int .i64 0, .int .u64 0, .int .i64 0, .int .i64 0, .int .i64 0, .int .i64 0, .int .i64 0, .int .i64 0, .int .i64 0, .int .u64 0, .int .i64 0, .int .i64 0]
  have hA := (Below.refl w.heap.size w).alloc (Nat.le_refl _) (.cells #[.int .i64 0, .int .i64 0, .int .i64 0, .int .i64 0, .int .u64 0, .int .i64 0, .int .i64 0, .int .i64 0, .int .i64 0, .int .i64 0, .int .u64 0, .int .i64 0, .int .i64 0, .int .i64 0, .int .i64 0, .int .i64 0, .int .i64 0, .int .i64 0, .int .u64 0, .int .i64 0, .int .i64 0] 28)
  have hth := there21 hZ rfl
  have HP := hide (⟨blk_setCells [.int .i64 0, .int .i64 0, .int .i64 0, .int .i64 0, .int .u64 0, .int .i64 0, .int .i64 0, .int .i64 0, .int .i64 0, .int .i64 0, .int .u64 0, .int .i64 0, .int .i64 0, .int .i64 0, .int .i64 0, .int .i64 0, .int .i64 0, .int .i64 0, .int .u64 0, .int .i64 0, .int .i64 0] [] [.int .i64 0, .int .i64 0, .int .i64 0, .int .i64 0, .int .u64 0, .int .i64 0, .int .i64 0, .int .i64 0, .int .i64 0, .int .i64 0, .int .u64 0, .int .i64 0, .int .i64 0, .int .i64 0, .int .i64 0, .int .i64 0, .int .i64 0, .int .i64 0, .int .u64 0, .int .i64 0, .int .i64 0] _ hZ rfl, below_setCells (Nat.le_refl w.heap.size) [.int .i64 0, .int .i64 0, .int .i64 0, .int .i64 0, .int .u64 0, .int .i64 0, .int .i64 0, .int .i64 0, .int .i64 0, .int .i64 0, .int .u64 0, .int .i64 0, .int .i64 0, .int .i64 0, .int .i64 0, .int .i64 0, .int .i64 0, .int .i64 0, .int .u64 0, .int .i64 0, .int .i64 0] 0 _ hA⟩ : _ ∧ _)
  clear hZ hA
  have h34 : (m : Int) < 34 := by omega
  go_enter Try.func18, Try.ntmps18
  go_wp2_with (refine wpList_store_mid rfl 28 _ _ rfl _ 0 _ rfl rfl hth info21 one_zero ?_; refine wpList_gen (fun W => Blk W w.heap.size 28 [.int .i64 0, .int .i64 0, .int .i64 0, .int .i64 0, .int .u64 0, .int .i64 0, .int .i64 0, .int .i64 0, .int .i64 0, .int .i64 0, .int .u64 0, .int .i64 0, .int .i64 0, .int .i64 0, .int .i64 0, .int .i64 0, .int .i64 0, .int .i64 0, .int .u64 0, .int .i64 0, .int .i64 0] ∧ Below w.heap.size w W) HP.out ?_; rintro Wf ⟨hZf, hWf⟩)
  exact bodyPost_ret (results21 rfl rfl rfl hZf rfl) rfl ⟨rfl, hWf⟩

set_option maxHeartbeats 1000000 in
theorem rdec_kind0 (b o : Nat) (m c : Nat) (bs : List UInt8) (w : World) (h : RB w (some ⟨b, o, none⟩) m c bs) (hm : 34 ≤ m) (hm2 : m ≤ 70000000000000) (sz : Int) (hsz : sizeOfKind (kindOf bs) = sz) (h0 : sz = 0) : Calls Try.prog 18 #[.slice (some ⟨b, o, none⟩) m c] w (DecEnd w Ptp.zero 8) := by
  have hl := h.len
  have hcp := h.cap
  have hmx := h.max
  have Hl := hide hl
  have hkr := kindOf_range bs (by omega)
  have HS := hide (fun w => refSize_b (kindOf bs) w)
  rw [hsz] at HS
  have hZ := Blk.new w 28 [.int .i64 0, .int .i64 0, .int .i64 0, .int .i64 0, .int .u64 0, .int .i64 0, .int .i64 0, .int .i64 0, .int .i64 0, .int .i64 0, .int .u64 0, .int .i64 0, .int .i64 0, .int .i64 0, .int .i64 0, .int .i64 0, .int .i64 0, .int .i64 0, .int .u64 0, .int .i64 0, .int .i64 0]
  have hA := (Below.refl w.heap.size w).alloc (Nat.le_refl _) (.cells #[.int .i64 0, .int .i64 0, .int .i64 0, .int .i64 0, .int .u64 0, .int .i64 0, .int .i64 0, .int .i64 0, .int .i64 0, .int .i64 0, .int .u64 0, .int .i64 0, .int .i64 0, .int .i64 0, .int .i64 0, .int .i64 0, .int .i64 0, .int .i64 0, .int .u64 0, .int .i64 0, .int .i64 0] 28)
  have h1 := h.alloc (.cells #[.int .i64 0, .int .i64 0, .int .i64 0, .int .i64 0, .int .u64 0, .int .i64 0, .int .i64 0, .int .i64 0, .int .i64 0, .int .i64 0, .int .u64 0, .int .i64 0, .int .i64 0, .int .i64 0, .int .i64 0, .int .i64 0, .int .i64 0, .int .i64 0, .int .u64 0, .int .i64 0, .int .i64 0] 28)
  have ek : kindOf bs = ((nth bs 0).toNat : Int) := by
    have := num_one bs 0 (by omega)
    show ((num bs 0 1 : Nat) : Int) = _
    rw [this]
  obtain ⟨b1, o1, e1, k0⟩ := h1.at_ 0 (by omega)
  injection e1 with e1
  injection e1 with e2 e3 e4
  subst e2 e3
  rw [← ek, Nat.add_zero] at k0
  have h34 : ¬ (m : Int) < 34 := by omega
  have Hcases := hide (size_cases (kindOf bs))
  rw [hsz] at Hcases
  have Hsz := hide hsz
  clear hl hsz e4 ek
  generalize kindOf bs = K at *
  go_enter Try.func18, Try.ntmps18
  go_wp2_with fail
  refine (HS.out _).mono ?_
  rintro e w1 ⟨rfl, hB1⟩
  have hZ1 := hZ.below' hB1
  have hW1 := below_step hA hB1 hA.size
  have hr1 := h1.below hB1
  clear k0 hZ hA h1 hB1
  subst h0
  have hth := there21 hZ1 rfl
  have HP := hide (⟨blk_setCells [.int .i64 0, .int .i64 0, .int .i64 0, .int .i64 0, .int .u64 0, .int .i64 0, .int .i64 0, .int .i64 0, .int .i64 0, .int .i64 0, .int .u64 0, .int .i64 0, .int .i64 0, .int .i64 0, .int .i64 0, .int .i64 0, .int .i64 0, .int .i64 0, .int .u64 0, .int .i64 0, .int .i64 0] [] [.int .i64 0, .int .i64 0, .int .i64 0, .int .i64 0, .int .u64 0, .int .i64 0, .int .i64 0, .int .i64 0, .int .i64 0, .int .i64 0, .int .u64 0, .int .i64 0, .int .i64 0, .int .i64 0, .int .i64 0, .int .i64 0, .int .i64 0, .int .i64 0, .int .u64 0, .int .i64 0, .int .i64 0] _ hZ1 rfl, below_setCells (Nat.le_refl w.heap.size) [.int .i64 0, .int .i64 0, .int .i64 0, .int .i64 0, .int .u64 0, .int .i64 0, .int .i64 0, .int .i64 0, .int .i64 0, .int .i64 0, .int .u64 0, .int .i64 0, .int .i64 0, .int .i64 0, .int .i64 0, .int .i64 0, .int .i64 0, .int .i64 0, .int .u64 0, .int .i64 0, .int .i64 0] 0 _ hW1⟩ : _ ∧ _)
  go_wp2_with (refine wpList_store_mid rfl 28 _ _ rfl _ 0 _ rfl rfl hth info21 one_zero ?_; refine wpList_gen (fun W => Blk W w.heap.size 28 [.int .i64 0, .int .i64 0, .int .i64 0, .int .i64 0, .int .u64 0, .int .i64 0, .int .i64 0, .int .i64 0, .int .i64 0, .int .i64 0, .int .u64 0, .int .i64 0, .int .i64 0, .int .i64 0, .int .i64 0, .int .i64 0, .int .i64 0, .int .i64 0, .int .u64 0, .int .i64 0, .int .i64 0] ∧ Below w.heap.size w W) HP.out ?_; rintro Wf ⟨hZf, hWf⟩)
  exact bodyPost_ret (results21 rfl rfl rfl hZf rfl) rfl ⟨rfl, hWf⟩

set_option maxHeartbeats 1000000 in
theorem rdec_kind1 (b o : Nat) (m c : Nat) (bs : List UInt8) (w : World) (h : RB w (some ⟨b, o, none⟩) m c bs) (hm : 34 ≤ m) (hm2 : m ≤ 70000000000000) (sz : Int) (hsz : sizeOfKind (kindOf bs) = sz) (h0 : (sz == 0) = false) (hv : num bs 1 1 ≠ 2) : Calls Try.prog 18 #[.slice (some ⟨b, o, none⟩) m c] w (DecEnd w Ptp.zero 8) := by
  have hl := h.len
  have hcp := h.cap
  have hmx := h.max
  have Hl := hide hl
  have hkr := kindOf_range bs (by omega)
  have HS := hide (fun w => refSize_b (kindOf bs) w)
  rw [hsz] at HS
  have hZ := Blk.new w 28 [.int .i64 0, .int .i64 0, .int .i64 0, .int .i64 0, .int .u64 0, .int .i64 0, .int .i64 0, .int .i64 0, .int .i64 0, .int .i64 0, .int .u64 0, .int .i64 0, .int .i64 0, .int .i64 0, .int .i64 0, .int .i64 0, .int .i64 0, .int .i64 0, .int .u64 0, .int .i64 0, .int .i64 0]
  have hA := (Below.refl w.heap.size w).alloc (Nat.le_refl _) (.cells #[.int .i64 0, .int .i64 0, .int .i64 0, .int .i64 0, .int .u64 0, .int .i64 0, .int .i64 0, .int .i64 0, .int .i64 0, .int .i64 0, .int .u64 0, .int .i64 0, .int .i64 0, .int .i64 0, .int .i64 0, .int .i64 0, .int .i64 0, .int .i64 0, .int .u64 0, .int .i64 0, .int .i64 0] 28)
  have h1 := h.alloc (.cells #[.int .i64 0, .int .i64 0, .int .i64 0, .int .i64 0, .int .u64 0, .int .i64 0, .int .i64 0, .int .i64 0, .int .i64 0, .int .i64 0, .int .u64 0, .int .i64 0, .int .i64 0, .int .i64 0, .int .i64 0, .int .i64 0, .int .i64 0, .int .i64 0, .int .u64 0, .int .i64 0, .int .i64 0] 28)
  have ek : kindOf bs = ((nth bs 0).toNat : Int) := by
    have := num_one bs 0 (by omega)
    show ((num bs 0 1 : Nat) : Int) = _
    rw [this]
  obtain ⟨b1, o1, e1, k0⟩ := h1.at_ 0 (by omega)
  injection e1 with e1
  injection e1 with e2 e3 e4
  subst e2 e3
  rw [← ek, Nat.add_zero] at k0
  have h34 : ¬ (m : Int) < 34 := by omega
  have Hcases := hide (size_cases (kindOf bs))
  rw [hsz] at Hcases
  have Hsz := hide hsz
  clear hl hsz e4 ek
  generalize kindOf bs = K at *
  go_enter Try.func18, Try.ntmps18
  go_wp2_with fail
  refine (HS.out _).mono ?_
  rintro e w1 ⟨rfl, hB1⟩
  have hZ1 := hZ.below' hB1
  have hW1 := below_step hA hB1 hA.size
  have hr1 := h1.below hB1
  clear k0 hZ hA h1 hB1
  obtain ⟨b1, o1, e1, k1⟩ := hr1.at_ 1 (by have := Hl.out; omega)
  injection e1 with e1
  injection e1 with e2 e3 e4
  subst e2 e3
  have en := num_one bs 1 (by have := Hl.out; omega)
  have hv2 : (((nth bs 1).toNat : Int) != 2) = true := by
    rw [en] at hv
    simp
    omega
  clear hv en
  have hth := there21 hZ1 rfl
  have HP := hide (⟨blk_setCells [.int .i64 0, .int .i64 0, .int .i64 0, .int .i64 0, .int .u64 0, .int .i64 0, .int .i64 0, .int .i64 0, .int .i64 0, .int .i64 0, .int .u64 0, .int .i64 0, .int .i64 0, .int .i64 0, .int .i64 0, .int .i64 0, .int .i64 0, .int .i64 0, .int .u64 0, .int .i64 0, .int .i64 0] [] [.int .i64 0, .int .i64 0, .int .i64 0, .int .i64 0, .int .u64 0, .int .i64 0, .int .i64 0, .int .i64 0, .int .i64 0, .int .i64 0, .int .u64 0, .int .i64 0, .int .i64 0, .int .i64 0, .int .i64 0, .int .i64 0, .int .i64 0, .int .i64 0, .int .u64 0, .int .i64 0, .int .i64 0] _ hZ1 rfl, below_setCells (Nat.le_refl w.heap.size) [.int .i64 0, .int .i64 0, .int .i64 0, .int .i64 0, .int .u64 0, .int .i64 0, .int .i64 0, .int .i64 0, .int .i64 0, .int .i64 0, .int .u64 0, .int .i64 0, .int .i64 0, .int .i64 0, .int .i64 0, .int .i64 0, .int .i64 0, .int .i64 0, .int .u64 0, .int .i64 0, .int .i64 0] 0 _ hW1⟩ : _ ∧ _)
  go_wp2_with (refine wpList_store_mid rfl 28 _ _ rfl _ 0 _ rfl rfl hth info21 one_zero ?_; refine wpList_gen (fun W => Blk W w.heap.size 28 [.int .i64 0, .int .i64 0, .int .i64 0, .int .i64 0, .int .u64 0, .int .i64 0, .int .i64 0, .int .i64 0, .int .i64 0, .int .i64 0, .int .u64 0, .int .i64 0, .int .i64 0, .int .i64 0, .int .i64 0, .int .i64 0, .int .i64 0, .int .i64 0, .int .u64 0, .int .i64 0, .int .i64 0] ∧ Below w.heap.size w W) HP.out ?_; rintro Wf ⟨hZf, hWf⟩)
  exact bodyPost_ret (results21 rfl rfl rfl hZf rfl) rfl ⟨rfl, hWf⟩

set_option maxHeartbeats 1000000 in
theorem rdec_short2 (b o : Nat) (m c : Nat) (bs : List UInt8) (w : World) (h : RB w (some ⟨b, o, none⟩) m c bs) (hm : 34 ≤ m) (hm2 : m ≤ 70000000000000) (sz : Int) (hsz : sizeOfKind (kindOf bs) = sz) (h0 : (sz == 0) = false) (hv : num bs 1 1 = 2) (hs : (m : Int) < sz) : Calls Try.prog 18 #[.slice (some ⟨b, o, none⟩) m c] w (DecEnd w Ptp.zero 5) := by
  have hl := h.len
  have hcp := h.cap
  have hmx := h.max
  have Hl := hide hl
  have hkr := kindOf_range bs (by omega)
  have HS := hide (fun w => refSize_b (kindOf bs) w)
  rw [hsz] at HS
  have hZ := Blk.new w 28 [.int .i64 0, .int .i64 0, .int .i64 0, .int .i64 0, .int .u64 0, .int .i64 0, .int .i64 0, .int .i64 0, .int .i64 0, .int .i64 0, .int .u64 0, .int .i64 0, .int .i64 0, .int .i64 0, .int .i64 0, .int .i64 0, .int .i64 0, .int .i64 0, .int .u64 0, .int .i64 0, .int .i64 0]
  have hA := (Below.refl w.heap.size w).alloc (Nat.le_refl _) (.cells #[.int .i64 0, .int .i64 0, .int .i64 0, .int .i64 0, .int .u64 0, .int .i64 0, .int .i64 0, .int .i64 0, .int .i64 0, .int .i64 0, .int .u64 0, .int .i64 0, .int .i64 0, .int .i64 0, .int .i64 0, .int .i64 0, .int .i64 0, .int .i64 0, .int .u64 0, .int .i64 0, .int .i64 0] 28)
  have h1 := h.alloc (.cells #[.int .i64 0, .int .i64 0, .int .i64 0, .int .i64 0, .int .u64 0, .int .i64 0, .int .i64 0, .int .i64 0, .int .i64 0, .int .i64 0, .int .u64 0, .int .i64 0, .int .i64 0, .int .i64 0, .int .i64 0, .int .i64 0, .int .i64 0, .int .i64 0, .int .u64 0, .int .i64 0, .int .i64 0] 28)
  have ek : kindOf bs = ((nth bs 0).toNat : Int) := by
    have := num_one bs 0 (by omega)
    show ((num bs 0 1 : Nat) : Int) = _
    rw [this]
  obtain ⟨b1, o1, e1, k0⟩ := h1.at_ 0 (by omega)
  injection e1 with e1
  injection e1 with e2 e3 e4
  subst e2 e3
  rw [← ek, Nat.add_zero] at k0
  have h34 : ¬ (m : Int) < 34 := by omega
  have Hcases := hide (size_cases (kindOf bs))
  rw [hsz] at Hcases
  have Hsz := hide hsz
  clear hl hsz e4 ek
  generalize kindOf bs = K at *
  go_enter Try.func18, Try.ntmps18
  go_wp2_with fail
  refine (HS.out _).mono ?_
  rintro e w1 ⟨rfl, hB1⟩
  have hZ1 := hZ.below' hB1
  have hW1 := below_step hA hB1 hA.size
  have hr1 := h1.below hB1
  clear k0 hZ hA h1 hB1
  obtain ⟨b1, o1, e1, k1⟩ := hr1.at_ 1 (by have := Hl.out; omega)
  injection e1 with e1
  injection e1 with e2 e3 e4
  subst e2 e3
  have en := num_one bs 1 (by have := Hl.out; omega)
  rw [hv] at en
  rw [show ((nth bs 1).toNat : Int) = 2 by omega] at k1
  clear en hv
  have hth := there21 hZ1 rfl
  have HP := hide (⟨blk_setCells [.int .i64 0, .int .i64 0, .int .i64 0, .int .i64 0, .int .u64 0, .int .i64 0, .int .i64 0, .int .i64 0, .int .i64 0, .int .i64 0, .int .u64 0, .int .i64 0, .int .i64 0, .int .i64 0, .int .i64 0, .int .i64 0, .int .i64 0, .int .i64 0, .int .u64 0, .int .i64 0, .int .i64 0] [] [.int .i64 0, .int .i64 0, .int .i64 0, .int .i64 0, .int .u64 0, .int .i64 0, .int .i64 0, .int .i64 0, .int .i64 0, .int .i64 0, .int .u64 0, .int .i64 0, .int .i64 0, .int .i64 0, .int .i64 0, .int .i64 0, .int .i64 0, .int .i64 0, .int .u64 0, .int .i64 0, .int .i64 0] _ hZ1 rfl, below_setCells (Nat.le_refl w.heap.size) [.int .i64 0, .int .i64 0, .int .i64 0, .int .i64 0, .int .u64 0, .int .i64 0, .int .i64 0, .int .i64 0, .int .i64 0, .int .i64 0, .int .u64 0, .int .i64 0, .int .i64 0, .int .i64 0, .int .i64 0, .int .i64 0, .int .i64 0, .int .i64 0, .int .u64 0, .int .i64 0, .int .i64 0] 0 _ hW1⟩ : _ ∧ _)
  go_wp2_with (refine wpList_store_mid rfl 28 _ _ rfl _ 0 _ rfl rfl hth info21 one_zero ?_; refine wpList_gen (fun W => Blk W w.heap.size 28 [.int .i64 0, .int .i64 0, .int .i64 0, .int .i64 0, .int .u64 0, .int .i64 0, .int .i64 0, .int .i64 0, .int .i64 0, .int .i64 0, .int .u64 0, .int .i64 0, .int .i64 0, .int .i64 0, .int .i64 0, .int .i64 0, .int .i64 0, .int .i64 0, .int .u64 0, .int .i64 0, .int .i64 0] ∧ Below w.heap.size w W) HP.out ?_; rintro Wf ⟨hZf, hWf⟩)
  exact bodyPost_ret (results21 rfl rfl rfl hZf rfl) rfl ⟨rfl, hWf⟩

set_option maxHeartbeats 1000000 in
theorem rdec_form (b o : Nat) (m c : Nat) (bs : List UInt8) (w : World) (h : RB w (some ⟨b, o, none⟩) m c bs) (hm : 34 ≤ m) (hm2 : m ≤ 70000000000000) (sz : Int) (hsz : sizeOfKind (kindOf bs) = sz) (h0 : (sz == 0) = false) (hv : num bs 1 1 = 2) (hs : ¬ (m : Int) < sz) (hf : ((num bs 2 2 : Int) != sz) = true) : Calls Try.prog 18 #[.slice (some ⟨b, o, none⟩) m c] w (DecEnd w Ptp.zero 7) := by
  have hl := h.len
  have hcp := h.cap
  have hmx := h.max
  have Hl := hide hl
  have hkr := kindOf_range bs (by omega)
  have HS := hide (fun w => refSize_b (kindOf bs) w)
  rw [hsz] at HS
  have hZ := Blk.new w 28 [.int .i64 0, .int .i64 0, .int .i64 0, .int .i64 0, .int .u64 0, .int .i64 0, .int .i64 0, .int .i64 0, .int .i64 0, .int .i64 0, .int .u64 0, .int .i64 0, .int .i64 0, .int .i64 0, .int .i64 0, .int .i64 0, .int .i64 0, .int .i64 0, .int .u64 0, .int .i64 0, .int .i64 0]
  have hA := (Below.refl w.heap.size w).alloc (Nat.le_refl _) (.cells #[.int .i64 0, .int .i64 0, .int .i64 0, .int .i64 0, .int .u64 0, .int .i64 0, .int .i64 0, .int .i64 0, .int .i64 0, .int .i64 0, .int .u64 0, .int .i64 0, .int .i64 0, .int .i64 0, .int .i64 0, .int .i64 0, .int .i64 0, .int .i64 0, .int .u64 0, .int .i64 0, .int .i64 0] 28)
  have h1 := h.alloc (.cells #[.int .i64 0, .int .i64 0, .int .i64 0, .int .i64 0, .int .u64 0, .int .i64 0, .int .i64 0, .int .i64 0, .int .i64 0, .int .i64 0, .int .u64 0, .int .i64 0, .int .i64 0, .int .i64 0, .int .i64 0, .int .i64 0, .int .i64 0, .int .i64 0, .int .u64 0, .int .i64 0, .int .i64 0] 28)
  have ek : kindOf bs = ((nth bs 0).toNat : Int) := by
    have := num_one bs 0 (by omega)
    show ((num bs 0 1 : Nat) : Int) = _
    rw [this]
  obtain ⟨b1, o1, e1, k0⟩ := h1.at_ 0 (by omega)
  injection e1 with e1
  injection e1 with e2 e3 e4
  subst e2 e3
  rw [← ek, Nat.add_zero] at k0
  have h34 : ¬ (m : Int) < 34 := by omega
  have Hcases := hide (size_cases (kindOf bs))
  rw [hsz] at Hcases
  have Hsz := hide hsz
  clear hl hsz e4 ek
  generalize kindOf bs = K at *
  go_enter Try.func18, Try.ntmps18
  go_wp2_with fail
  refine (HS.out _).mono ?_
  rintro e w1 ⟨rfl, hB1⟩
  have hZ1 := hZ.below' hB1
  have hW1 := below_step hA hB1 hA.size
  have hr1 := h1.below hB1
  clear k0 hZ hA h1 hB1
  obtain ⟨b1, o1, e1, k1⟩ := hr1.at_ 1 (by have := Hl.out; omega)
  injection e1 with e1
  injection e1 with e2 e3 e4
  subst e2 e3
  have en := num_one bs 1 (by have := Hl.out; omega)
  rw [hv] at en
  rw [show ((nth bs 1).toNat : Int) = 2 by omega] at k1
  clear en hv
  have hth := there21 hZ1 rfl
  have HP := hide (⟨blk_setCells [.int .i64 0, .int .i64 0, .int .i64 0, .int .i64 0, .int .u64 0, .int .i64 0, .int .i64 0, .int .i64 0, .int .i64 0, .int .i64 0, .int .u64 0, .int .i64 0, .int .i64 0, .int .i64 0, .int .i64 0, .int .i64 0, .int .i64 0, .int .i64 0, .int .u64 0, .int .i64 0, .int .i64 0] [] [.int .i64 0, .int .i64 0, .int .i64 0, .int .i64 0, .int .u64 0, .int .i64 0, .int .i64 0, .int .i64 0, .int .i64 0, .int .i64 0, .int .u64 0, .int .i64 0, .int .i64 0, .int .i64 0, .int .i64 0, .int .i64 0, .int .i64 0, .int .i64 0, .int .u64 0, .int .i64 0, .int .i64 0] _ hZ1 rfl, below_setCells (Nat.le_refl w.heap.size) [.int .i64 0, .int .i64 0, .int .i64 0, .int .i64 0, .int .u64 0, .int .i64 0, .int .i64 0, .int .i64 0, .int .i64 0, .int .i64 0, .int .u64 0, .int .i64 0, .int .i64 0, .int .i64 0, .int .i64 0, .int .i64 0, .int .i64 0, .int .i64 0, .int .u64 0, .int .i64 0, .int .i64 0] 0 _ hW1⟩ : _ ∧ _)
  go_wp2_with fail
  refine (refGet_any b o m c bs 2 2 w1 hr1 (by omega) (by omega) (by omega)).mono ?_
  rintro e w2 ⟨rfl, rfl⟩
  have hn2 := num_lt bs 2 2 (by have := Hl.out; omega)
  simp only [Nat.reducePow] at hn2
  clear k1
  go_wp2_with (refine wpList_store_mid rfl 28 _ _ rfl _ 0 _ rfl rfl hth info21 one_zero ?_; refine wpList_gen (fun W => Blk W w.heap.size 28 [.int .i64 0, .int .i64 0, .int .i64 0, .int .i64 0, .int .u64 0, .int .i64 0, .int .i64 0, .int .i64 0, .int .i64 0, .int .i64 0, .int .u64 0, .int .i64 0, .int .i64 0, .int .i64 0, .int .i64 0, .int .i64 0, .int .i64 0, .int .i64 0, .int .u64 0, .int .i64 0, .int .i64 0] ∧ Below w.heap.size w W) HP.out ?_; rintro Wf ⟨hZf, hWf⟩)
  exact bodyPost_ret (results21 rfl rfl rfl hZf rfl) rfl ⟨rfl, hWf⟩

set_option maxHeartbeats 1000000 in
theorem rdec_long (b o : Nat) (m c : Nat) (bs : List UInt8) (w : World) (h : RB w (some ⟨b, o, none⟩) m c bs) (hm : 34 ≤ m) (hm2 : m ≤ 70000000000000) (sz : Int) (hsz : sizeOfKind (kindOf bs) = sz) (h0 : (sz == 0) = false) (hv : num bs 1 1 = 2) (hs : ¬ (m : Int) < sz) (hf : (num bs 2 2 : Int) = sz) (hg : sz < (m : Int)) : Calls Try.prog 18 #[.slice (some ⟨b, o, none⟩) m c] w (DecEnd w Ptp.zero 6) := by
  have hl := h.len
  have hcp := h.cap
  have hmx := h.max
  have Hl := hide hl
  have hkr := kindOf_range bs (by omega)
  have HS := hide (fun w => refSize_b (kindOf bs) w)
  rw [hsz] at HS
  have hZ := Blk.new w 28 [.int .i64 0, .int .i64 0, .int .i64 0, .int .i64 0, .int .u64 0, .int .i64 0, .int .i64 0, .int .i64 0, .int .i64 0, .int .i64 0, .int .u64 0, .int .i64 0, .int .i64 0, .int .i64 0, .int .i64 0, .int .i64 0, .int .i64 0, .int .i64 0, .int .u64 0, .int .i64 0, .int .i64 0]
  have hA := (Below.refl w.heap.size w).alloc (Nat.le_refl _) (.cells #[.int .i64 0, .int .i64 0, .int .i64 0, .int .i64 0, .int .u64 0, .int .i64 0, .int .i64 0, .int .i64 0, .int .i64 0, .int .i64 0, .int .u64 0, .int .i64 0, .int .i64 0, .int .i64 0, .int .i64 0, .int .i64 0, .int .i64 0, .int .i64 0, .int .u64 0, .int .i64 0, .int .i64 0] 28)
  have h1 := h.alloc (.cells #[.int .i64 0, .int .i64 0, .int .i64 0, .int .i64 0, .int .u64 0, .int .i64 0, .int .i64 0, .int .i64 0, .int .i64 0, .int .i64 0, .int .u64 0, .int .i64 0, .int .i64 0, .int .i64 0, .int .i64 0, .int .i64 0, .int .i64 0, .int .i64 0, .int .u64 0, .int .i64 0, .int .i64 0] 28)
  have ek : kindOf bs = ((nth bs 0).toNat : Int) := by
    have := num_one bs 0 (by omega)
    show ((num bs 0 1 : Nat) : Int) = _
    rw [this]
  obtain ⟨b1, o1, e1, k0⟩ := h1.at_ 0 (by omega)
  injection e1 with e1
  injection e1 with e2 e3 e4
  subst e2 e3
  rw [← ek, Nat.add_zero] at k0
  have h34 : ¬ (m : Int) < 34 := by omega
  have Hcases := hide (size_cases (kindOf bs))
  rw [hsz] at Hcases
  have Hsz := hide hsz
  clear hl hsz e4 ek
  generalize kindOf bs = K at *
  go_enter Try.func18, Try.ntmps18
  go_wp2_with fail
  refine (HS.out _).mono ?_
  rintro e w1 ⟨rfl, hB1⟩
  have hZ1 := hZ.below' hB1
  have hW1 := below_step hA hB1 hA.size
  have hr1 := h1.below hB1
  clear k0 hZ hA h1 hB1
  obtain ⟨b1, o1, e1, k1⟩ := hr1.at_ 1 (by have := Hl.out; omega)
  injection e1 with e1
  injection e1 with e2 e3 e4
  subst e2 e3
  have en := num_one bs 1 (by have := Hl.out; omega)
  rw [hv] at en
  rw [show ((nth bs 1).toNat : Int) = 2 by omega] at k1
  clear en hv
  have hth := there21 hZ1 rfl
  have HP := hide (⟨blk_setCells [.int .i64 0, .int .i64 0, .int .i64 0, .int .i64 0, .int .u64 0, .int .i64 0, .int .i64 0, .int .i64 0, .int .i64 0, .int .i64 0, .int .u64 0, .int .i64 0, .int .i64 0, .int .i64 0, .int .i64 0, .int .i64 0, .int .i64 0, .int .i64 0, .int .u64 0, .int .i64 0, .int .i64 0] [] [.int .i64 0, .int .i64 0, .int .i64 0, .int .i64 0, .int .u64 0, .int .i64 0, .int .i64 0, .int .i64 0, .int .i64 0, .int .i64 0, .int .u64 0, .int .i64 0, .int .i64 0, .int .i64 0, .int .i64 0, .int .i64 0, .int .i64 0, .int .i64 0, .int .u64 0, .int .i64 0, .int .i64 0] _ hZ1 rfl, below_setCells (Nat.le_refl w.heap.size) [.int .i64 0, .int .i64 0, .int .i64 0, .int .i64 0, .int .u64 0, .int .i64 0, .int .i64 0, .int .i64 0, .int .i64 0, .int .i64 0, .int .u64 0, .int .i64 0, .int .i64 0, .int .i64 0, .int .i64 0, .int .i64 0, .int .i64 0, .int .i64 0, .int .u64 0, .int .i64 0, .int .i64 0] 0 _ hW1⟩ : _ ∧ _)
  go_wp2_with fail
  refine (refGet_any b o m c bs 2 2 w1 hr1 (by omega) (by omega) (by omega)).mono ?_
  rintro e w2 ⟨rfl, rfl⟩
  have hn2 := num_lt bs 2 2 (by have := Hl.out; omega)
  simp only [Nat.reducePow] at hn2
  clear k1
  rw [hf]
  go_wp2_with (refine wpList_store_mid rfl 28 _ _ rfl _ 0 _ rfl rfl hth info21 one_zero ?_; refine wpList_gen (fun W => Blk W w.heap.size 28 [.int .i64 0, .int .i64 0, .int .i64 0, .int .i64 0, .int .u64 0, .int .i64 0, .int .i64 0, .int .i64 0, .int .i64 0, .int .i64 0, .int .u64 0, .int .i64 0, .int .i64 0, .int .i64 0, .int .i64 0, .int .i64 0, .int .i64 0, .int .i64 0, .int .u64 0, .int .i64 0, .int .i64 0] ∧ Below w.heap.size w W) HP.out ?_; rintro Wf ⟨hZf, hWf⟩)
  exact bodyPost_ret (results21 rfl rfl rfl hZf rfl) rfl ⟨rfl, hWf⟩

set_option maxHeartbeats 1000000 in
theorem rdec_zero (b o : Nat) (m c : Nat) (bs : List UInt8) (w : World) (h : RB w (some ⟨b, o, none⟩) m c bs) (hm : 34 ≤ m) (hm2 : m ≤ 70000000000000) (sz : Int) (hsz : sizeOfKind (kindOf bs) = sz) (h0 : (sz == 0) = false) (hv : num bs 1 1 = 2) (hs : sz = (m : Int)) (hf : (num bs 2 2 : Int) = sz) (hfx : fixedB bs (kindOf bs) = false) : Calls Try.prog 18 #[.slice (some ⟨b, o, none⟩) m c] w (DecEnd w Ptp.zero 7) := by
  have HF := hide (fun w h => refFixed_any b o m c bs (kindOf bs) w h (by
    rcases size_cases (kindOf bs) with e | e | e | e
    · rw [hsz] at e; subst e; simp at h0
    all_goals omega) (fun e => by
      have : sizeOfKind (kindOf bs) = 54 := by rw [e]; rfl
      omega) (fun e => by
      have : sizeOfKind (kindOf bs) = 64 := by rw [e]; rfl
      omega))
  have hm44 : 44 ≤ m := by
    rcases size_cases (kindOf bs) with e | e | e | e
    · rw [hsz] at e; subst e; simp at h0
    all_goals omega
  rw [hfx] at HF
  have hl := h.len
  have hcp := h.cap
  have hmx := h.max
  have Hl := hide hl
  have hkr := kindOf_range bs (by omega)
  have HS := hide (fun w => refSize_b (kindOf bs) w)
  rw [hsz] at HS
  have hZ := Blk.new w 28 [.int .i64 0, .int .i64 0, .int .i64 0, .int .i64 0, .int .u64 0, .int .i64 0, .int .i64 0, .int .i64 0, .int .i64 0, .int .i64 0, .int .u64 0, .int .i64 0, .int .i64 0, .int .i64 0, .int .i64 0, .int .i64 0, .int .i64 0, .int .i64 0, .int .u64 0, .int .i64 0, .int .i64 0]
  have hA := (Below.refl w.heap.size w).alloc (Nat.le_refl _) (.cells #[.int .i64 0, .int .i64 0, .int .i64 0, .int .i64 0, .int .u64 0, .int .i64 0, .int .i64 0, .int .i64 0, .int .i64 0, .int .i64 0, .int .u64 0, .int .i64 0, .int .i64 0, .int .i64 0, .int .i64 0, .int .i64 0, .int .i64 0, .int .i64 0, .int .u64 0, .int .i64 0, .int .i64 0] 28)
  have h1 := h.alloc (.cells #[.int .i64 0, .int .i64 0, .int .i64 0, .int .i64 0, .int .u64 0, .int .i64 0, .int .i64 0, .int .i64 0, .int .i64 0, .int .i64 0, .int .u64 0, .int .i64 0, .int .i64 0, .int .i64 0, .int .i64 0, .int .i64 0, .int .i64 0, .int .i64 0, .int .u64 0, .int .i64 0, .int .i64 0] 28)
  have ek : kindOf bs = ((nth bs 0).toNat : Int) := by
    have := num_one bs 0 (by omega)
    show ((num bs 0 1 : Nat) : Int) = _
    rw [this]
  obtain ⟨b1, o1, e1, k0⟩ := h1.at_ 0 (by omega)
  injection e1 with e1
  injection e1 with e2 e3 e4
  subst e2 e3
  rw [← ek, Nat.add_zero] at k0
  have h34 : ¬ (m : Int) < 34 := by omega
  have Hcases := hide (size_cases (kindOf bs))
  rw [hsz] at Hcases
  have Hsz := hide hsz
  clear hl hsz e4 ek
  generalize kindOf bs = K at *
  go_enter Try.func18, Try.ntmps18
  go_wp2_with fail
  refine (HS.out _).mono ?_
  rintro e w1 ⟨rfl, hB1⟩
  have hZ1 := hZ.below' hB1
  have hW1 := below_step hA hB1 hA.size
  have hr1 := h1.below hB1
  clear k0 hZ hA h1 hB1
  obtain ⟨b1, o1, e1, k1⟩ := hr1.at_ 1 (by have := Hl.out; omega)
  injection e1 with e1
  injection e1 with e2 e3 e4
  subst e2 e3
  have en := num_one bs 1 (by have := Hl.out; omega)
  rw [hv] at en
  rw [show ((nth bs 1).toNat : Int) = 2 by omega] at k1
  clear en hv
  go_wp2_with fail
  refine (refGet_any b o m c bs 2 2 w1 hr1 (by omega) (by omega) (by omega)).mono ?_
  rintro e w2 ⟨rfl, rfl⟩
  have hn2 := num_lt bs 2 2 (by have := Hl.out; omega)
  simp only [Nat.reducePow] at hn2
  clear k1
  rw [hf]
  go_wp2_with fail
  refine (HF.out w1 hr1).mono ?_
  rintro e w3 ⟨rfl, hB3⟩
  have hZ3 := hZ1.below' hB3
  have hW3 := below_step hW1 hB3 hW1.size
  have hr3 := hr1.below hB3
  clear hZ1 hW1 hr1 hB3
  have hth := there21 hZ3 rfl
  have HP := hide (⟨blk_setCells [.int .i64 0, .int .i64 0, .int .i64 0, .int .i64 0, .int .u64 0, .int .i64 0, .int .i64 0, .int .i64 0, .int .i64 0, .int .i64 0, .int .u64 0, .int .i64 0, .int .i64 0, .int .i64 0, .int .i64 0, .int .i64 0, .int .i64 0, .int .i64 0, .int .u64 0, .int .i64 0, .int .i64 0] [] [.int .i64 0, .int .i64 0, .int .i64 0, .int .i64 0, .int .u64 0, .int .i64 0, .int .i64 0, .int .i64 0, .int .i64 0, .int .i64 0, .int .u64 0, .int .i64 0, .int .i64 0, .int .i64 0, .int .i64 0, .int .i64 0, .int .i64 0, .int .i64 0, .int .u64 0, .int .i64 0, .int .i64 0] _ hZ3 rfl, below_setCells (Nat.le_refl w.heap.size) [.int .i64 0, .int .i64 0, .int .i64 0, .int .i64 0, .int .u64 0, .int .i64 0, .int .i64 0, .int .i64 0, .int .i64 0, .int .i64 0, .int .u64 0, .int .i64 0, .int .i64 0, .int .i64 0, .int .i64 0, .int .i64 0, .int .i64 0, .int .i64 0, .int .u64 0, .int .i64 0, .int .i64 0] 0 _ hW3⟩ : _ ∧ _)
  go_wp2_with (refine wpList_store_mid rfl 28 _ _ rfl _ 0 _ rfl rfl hth info21 one_zero ?_; refine wpList_gen (fun W => Blk W w.heap.size 28 [.int .i64 0, .int .i64 0, .int .i64 0, .int .i64 0, .int .u64 0, .int .i64 0, .int .i64 0, .int .i64 0, .int .i64 0, .int .i64 0, .int .u64 0, .int .i64 0, .int .i64 0, .int .i64 0, .int .i64 0, .int .i64 0, .int .i64 0, .int .i64 0, .int .u64 0, .int .i64 0, .int .i64 0] ∧ Below w.heap.size w W) HP.out ?_; rintro Wf ⟨hZf, hWf⟩)
  exact bodyPost_ret (results21 rfl rfl rfl hZf rfl) rfl ⟨rfl, hWf⟩

theorem cells_req (bs : List UInt8) (hq : isReq (kindOf bs) = true) (h11 : kindOf bs ≠ 11) : (ptpOf bs).cells = [.int .i64 (kindOf bs), .int .i64 (num bs 4 1 : Nat), .int .i64 (num bs 6 2 : Nat), .int .i64 (sgn (num bs 8 8) 8), .int .u64 (num bs 20 8 : Nat), .int .i64 (num bs 28 2 : Nat), .int .i64 (num bs 30 2 : Nat), .int .i64 (sgn (num bs 33 1) 1), .int .i64 (num bs 34 6 : Nat), .int .i64 (num bs 40 4 : Nat), .int .u64 (num bs 44 8 : Nat), .int .i64 (num bs 52 2 : Nat), .int .i64 0, .int .i64 0, .int .i64 0, .int .i64 0, .int .i64 0, .int .i64 0, .int .u64 0, .int .i64 0, .int .i64 0] := by
  unfold ptpOf Ptp.cells
  simp only [if_pos hq, if_neg h11]
theorem cells_ann (bs : List UInt8) (hq : isReq (kindOf bs) = false) (h11 : kindOf bs = 11) : (ptpOf bs).cells = [.int .i64 (kindOf bs), .int .i64 (num bs 4 1 : Nat), .int .i64 (num bs 6 2 : Nat), .int .i64 (sgn (num bs 8 8) 8), .int .u64 (num bs 20 8 : Nat), .int .i64 (num bs 28 2 : Nat), .int .i64 (num bs 30 2 : Nat), .int .i64 (sgn (num bs 33 1) 1), .int .i64 (num bs 34 6 : Nat), .int .i64 (num bs 40 4 : Nat), .int .u64 0, .int .i64 0, .int .i64 (sgn (num bs 44 2) 2), .int .i64 (num bs 47 1 : Nat), .int .i64 (num bs 48 1 : Nat), .int .i64 (num bs 49 1 : Nat), .int .i64 (num bs 50 2 : Nat), .int .i64 (num bs 52 1 : Nat), .int .u64 (num bs 53 8 : Nat), .int .i64 (num bs 61 2 : Nat), .int .i64 (num bs 63 1 : Nat)] := by
  have hq' : ¬ isReq (kindOf bs) = true := by simp [hq]
  unfold ptpOf Ptp.cells
  simp only [if_neg hq', if_pos h11]
theorem cells_no (bs : List UInt8) (hq : isReq (kindOf bs) = false) (h11 : kindOf bs ≠ 11) : (ptpOf bs).cells = [.int .i64 (kindOf bs), .int .i64 (num bs 4 1 : Nat), .int .i64 (num bs 6 2 : Nat), .int .i64 (sgn (num bs 8 8) 8), .int .u64 (num bs 20 8 : Nat), .int .i64 (num bs 28 2 : Nat), .int .i64 (num bs 30 2 : Nat), .int .i64 (sgn (num bs 33 1) 1), .int .i64 (num bs 34 6 : Nat), .int .i64 (num bs 40 4 : Nat), .int .u64 0, .int .i64 0, .int .i64 0, .int .i64 0, .int .i64 0, .int .i64 0, .int .i64 0, .int .i64 0, .int .u64 0, .int .i64 0, .int .i64 0] := by
  have hq' : ¬ isReq (kindOf bs) = true := by simp [hq]
  unfold ptpOf Ptp.cells
  simp only [if_neg hq', if_neg h11]
theorem wnum (bs : List UInt8) (p s : Nat) (hs : s ≤ 7) : IntKind.i64.wrap ((num bs p s : Nat) : Int) = (num bs p s : Nat) := by
  have h7 : num bs p s < 256 ^ 7 := ofBe_le (by unfold sub; simp; omega)
  exact wrap_small _ (Nat.lt_trans h7 (by decide))
theorem wnum8 (bs : List UInt8) (p : Nat) : IntKind.i64.wrap ((num bs p 8 : Nat) : Int) = sgn (num bs p 8) 8 := wrap_sgn8 _ (ofBe_le (by unfold sub; simp; omega))

set_option maxRecDepth 20000 in
set_option maxHeartbeats 8000000 in
theorem rdec_ok (b o : Nat) (m c : Nat) (bs : List UInt8) (w : World) (h : RB w (some ⟨b, o, none⟩) m c bs) (hm : 34 ≤ m) (hm2 : m ≤ 70000000000000) (sz : Int) (hsz : sizeOfKind (kindOf bs) = sz) (h0 : (sz == 0) = false) (hv : num bs 1 1 = 2) (hs : sz = (m : Int)) (hf : (num bs 2 2 : Int) = sz) (hfx : fixedB bs (kindOf bs) = true) : Calls Try.prog 18 #[.slice (some ⟨b, o, none⟩) m c] w (fun e w' => e = .returned (.tuple #[.agg (if ptpCheck (ptpOf bs) = 0 then (ptpOf bs).cells else Ptp.zero.cells).toArray, .int .i64 (ptpCheck (ptpOf bs))]) ∧ Below w.heap.size w w') := by
  have HF := hide (fun w h => refFixed_any b o m c bs (kindOf bs) w h (by
    rcases size_cases (kindOf bs) with e | e | e | e
    · rw [hsz] at e; subst e; simp at h0
    all_goals omega) (fun e => by
      have : sizeOfKind (kindOf bs) = 54 := by rw [e]; rfl
      omega) (fun e => by
      have : sizeOfKind (kindOf bs) = 64 := by rw [e]; rfl
      omega))
  have hm44 : 44 ≤ m := by
    rcases size_cases (kindOf bs) with e | e | e | e
    · rw [hsz] at e; subst e; simp at h0
    all_goals omega
  rw [hfx] at HF
  have Hreq := hide (cells_req bs)
  have Hann := hide (cells_ann bs)
  have Hno := hide (cells_no bs)
  have Hkinds := hide (kinds (k := kindOf bs) (by rw [hsz]; intro e; subst e; simp at h0))
  have HC := hide (fun w => refCheck_any (ptpOf bs) w)
  rw [show (ptpOf bs).val = .agg (ptpOf bs).cells.toArray from rfl] at HC
  have hcl : (ptpOf bs).cells.length = 21 := rfl
  have one0 : ((ptpOf bs).cells.toArray : Array Value).all (·.oneCell') = true := ptp_one' (ptpOf bs)
  have hicp : (Try.prog.info? 28).map (·.size) = some (ptpOf bs).cells.length := info21
  have hicp' : (Try.prog.info? 28).map (·.size) = some (ptpOf bs).cells.toArray.size := info21
  generalize ptpCheck (ptpOf bs) = r at *
  generalize (ptpOf bs).cells = cp at *
  have hl := h.len
  have hcp := h.cap
  have hmx := h.max
  have Hl := hide hl
  have hkr := kindOf_range bs (by omega)
  have HS := hide (fun w => refSize_b (kindOf bs) w)
  rw [hsz] at HS
  have hZ := Blk.new w 28 [.int .i64 0, .int .i64 0, .int .i64 0, .int .i64 0, .int .u64 0, .int .i64 0, .int .i64 0, .int .i64 0, .int .i64 0, .int .i64 0, .int .u64 0, .int .i64 0, .int .i64 0, .int .i64 0, .int .i64 0, .int .i64 0, .int .i64 0, .int .i64 0, .int .u64 0, .int .i64 0, .int .i64 0]
  have hA := (Below.refl w.heap.size w).alloc (Nat.le_refl _) (.cells #[.int .i64 0, .int .i64 0, .int .i64 0, .int .i64 0, .int .u64 0, .int .i64 0, .int .i64 0, .int .i64 0, .int .i64 0, .int .i64 0, .int .u64 0, .int .i64 0, .int .i64 0, .int .i64 0, .int .i64 0, .int .i64 0, .int .i64 0, .int .i64 0, .int .u64 0, .int .i64 0, .int .i64 0] 28)
  have h1 := h.alloc (.cells #[.int .i64 0, .int .i64 0, .int .i64 0, .int .i64 0, .int .u64 0, .int .i64 0, .int .i64 0, .int .i64 0, .int .i64 0, .int .i64 0, .int .u64 0, .int .i64 0, .int .i64 0, .int .i64 0, .int .i64 0, .int .i64 0, .int .i64 0, .int .i64 0, .int .u64 0, .int .i64 0, .int .i64 0] 28)
  have ek : kindOf bs = ((nth bs 0).toNat : Int) := by
    have := num_one bs 0 (by omega)
    show ((num bs 0 1 : Nat) : Int) = _
    rw [this]
  obtain ⟨b1, o1, e1, k0⟩ := h1.at_ 0 (by omega)
  injection e1 with e1
  injection e1 with e2 e3 e4
  subst e2 e3
  rw [← ek, Nat.add_zero] at k0
  have h34 : ¬ (m : Int) < 34 := by omega
  have Hcases := hide (size_cases (kindOf bs))
  rw [hsz] at Hcases
  have Hsz := hide hsz
  clear hl hsz e4 ek
  generalize kindOf bs = K at *
  go_enter Try.func18, Try.ntmps18
  go_wp2_with fail
  refine (HS.out _).mono ?_
  rintro e w1 ⟨rfl, hB1⟩
  have hZ1 := hZ.below' hB1
  have hW1 := below_step hA hB1 hA.size
  have hr1 := h1.below hB1
  clear k0 hZ hA h1 hB1
  obtain ⟨b1, o1, e1, k1⟩ := hr1.at_ 1 (by have := Hl.out; omega)
  injection e1 with e1
  injection e1 with e2 e3 e4
  subst e2 e3
  have en := num_one bs 1 (by have := Hl.out; omega)
  rw [hv] at en
  rw [show ((nth bs 1).toNat : Int) = 2 by omega] at k1
  clear en hv
  go_wp2_with fail
  refine (refGet_any b o m c bs 2 2 w1 hr1 (by omega) (by omega) (by omega)).mono ?_
  rintro e w2 ⟨rfl, rfl⟩
  have hn2 := num_lt bs 2 2 (by have := Hl.out; omega)
  simp only [Nat.reducePow] at hn2
  clear k1
  rw [hf]
  go_wp2_with fail
  refine (HF.out w1 hr1).mono ?_
  rintro e w3 ⟨rfl, hB3⟩
  have hZ3 := hZ1.below' hB3
  have hW3 := below_step hW1 hB3 hW1.size
  have hr3 := hr1.below hB3
  clear hZ1 hW1 hr1 hB3
  go_wp2_with fail
  have hr4 := hr3.below (Below.refl _ _).drew
  have hZ4 := hZ3.below' (Below.refl _ _).drew
  have hW4 := hW3.drew
  have hi4 : 4 < bs.length := by have := Hl.out; omega
  have hi33 : 33 < bs.length := by have := Hl.out; omega
  have hn33 := num_lt bs 33 1 (by omega)
  have HS33 := hide (fun w => refSigned1_any (num bs 33 1) w hn33)
  rw [← wrap_small (num bs 33 1) (Nat.lt_trans hn33 (by decide))] at HS33
  have hj4 : (4 : Int) < (m : Int) := by omega
  have hj33 : (33 : Int) < (m : Int) := by omega
  clear hn33 HF hr3 hZ3 hW3
  refine wp_region_held_drew (S := fun w' => RB w' (some ⟨b, o, none⟩) m c bs) (by kernel_rfl) hr4 (fun hHeld => ?_)
  generalize w3.drew = w4 at *
  refine wpAnyH_take (i := 0) (oi := ⟨some 47, _, _, _, _, _⟩) (v := ?_) rfl (by kernel_rfl) (by kernel_rfl) (by kernel_rfl) (fun _ _ _ h => h) (Or.inl ⟨by rfl, ?_⟩) (by assumption) ?_
  rotate_left
  · intro w hSw
    clear hSw
    go_simp
    first | done | with_reducible rfl
  simp only [Act.put, List.setIfInBounds_toArray, List.set_cons_zero, List.set_cons_succ]
  refine wpAnyH_take (i := 1) (oi := ⟨some 48, _, _, _, _, _⟩) (v := ?_) rfl (by kernel_rfl) (by kernel_rfl) (by kernel_rfl) (fun _ _ _ h => h) (Or.inl ⟨by rfl, ?_⟩) (by assumption) ?_
  rotate_left
  · intro w hSw
    clear hSw
    go_simp
    first | done | with_reducible rfl
  simp only [Act.put, List.setIfInBounds_toArray, List.set_cons_zero, List.set_cons_succ]
  refine wpAnyH_take (i := 2) (oi := ⟨some 49, _, _, _, _, _⟩) (v := ?_) rfl (by kernel_rfl) (by kernel_rfl) (by kernel_rfl) (fun _ _ _ h => h) (Or.inl ⟨by rfl, ?_⟩) (by assumption) ?_
  rotate_left
  · intro w hSw
    clear hSw
    go_simp
    first | done | with_reducible rfl
  simp only [Act.put, List.setIfInBounds_toArray, List.set_cons_zero, List.set_cons_succ]
  refine wpAnyH_take (i := 3) (oi := ⟨some 50, _, _, _, _, _⟩) (v := ?_) rfl (by kernel_rfl) (by kernel_rfl) (by kernel_rfl) (fun _ _ _ h => h) (Or.inl ⟨by rfl, ?_⟩) (by assumption) ?_
  rotate_left
  · intro w hSw
    have k := rb_cell hSw 4 hi4
    go_simp
    first | done | with_reducible rfl
  simp only [Act.put, List.setIfInBounds_toArray, List.set_cons_zero, List.set_cons_succ]
  refine wpAnyH_take (i := 4) (oi := ⟨some 51, _, _, _, _, _⟩) (v := ?_) rfl (by kernel_rfl) (by kernel_rfl) (by kernel_rfl) (fun _ _ _ h => h) (Or.inl ⟨by rfl, ?_⟩) (by assumption) ?_
  rotate_left
  · intro w hSw
    clear hSw
    go_simp
    first | done | with_reducible rfl
  simp only [Act.put, List.setIfInBounds_toArray, List.set_cons_zero, List.set_cons_succ]
  refine wpAnyH_take (i := 5) (oi := ⟨some 52, _, _, _, _, _⟩) (v := ?_) rfl (by kernel_rfl) (by kernel_rfl) (by kernel_rfl) (fun _ _ _ h => h) (Or.inl ⟨by rfl, ?_⟩) (by assumption) ?_
  rotate_left
  · intro w hSw
    clear hSw
    go_simp
    first | done | with_reducible rfl
  simp only [Act.put, List.setIfInBounds_toArray, List.set_cons_zero, List.set_cons_succ]
  refine callTake (i := 6) (oi := ⟨some 53, _, _, _, _, _⟩) (v := .int .i64 (num bs 6 2 : Nat)) rfl (by kernel_rfl) (by kernel_rfl) (by kernel_rfl) (fun _ _ _ h => h) rfl 36 #[.slice (some ⟨b, o, none⟩) m c, .int .i64 6, .int .i64 2] ?hop53 ?hc53 (by assumption) ?rest53
  case hop53 =>
    intro wv
    go_simp
  case hc53 =>
    intro wv hSw
    exact refGet_any b o m c bs 6 2 wv hSw (by omega) (by omega) (by omega)
  simp only [Act.put, List.setIfInBounds_toArray, List.set_cons_zero, List.set_cons_succ]
  refine wpAnyH_take (i := 7) (oi := ⟨some 54, _, _, _, _, _⟩) (v := ?_) rfl (by kernel_rfl) (by kernel_rfl) (by kernel_rfl) (fun _ _ _ h => h) (Or.inl ⟨by rfl, ?_⟩) (by assumption) ?_
  rotate_left
  · intro w hSw
    clear hSw
    go_simp
    first | done | with_reducible rfl
  simp only [Act.put, List.setIfInBounds_toArray, List.set_cons_zero, List.set_cons_succ]
  refine callTake (i := 8) (oi := ⟨some 55, _, _, _, _, _⟩) (v := .int .i64 (sgn (num bs 8 8) 8)) rfl (by kernel_rfl) (by kernel_rfl) (by kernel_rfl) (fun _ _ _ h => h) rfl 36 #[.slice (some ⟨b, o, none⟩) m c, .int .i64 8, .int .i64 8] ?hop55 ?hc55 (by assumption) ?rest55
  case hop55 =>
    intro wv
    go_simp
  case hc55 =>
    intro wv hSw
    exact refGet8_any b o m c bs 8 wv hSw (by omega) (by omega)
  simp only [Act.put, List.setIfInBounds_toArray, List.set_cons_zero, List.set_cons_succ]
  refine wpAnyH_take (i := 9) (oi := ⟨some 56, _, _, _, _, _⟩) (v := ?_) rfl (by kernel_rfl) (by kernel_rfl) (by kernel_rfl) (fun _ _ _ h => h) (Or.inl ⟨by rfl, ?_⟩) (by assumption) ?_
  rotate_left
  · intro w hSw
    clear hSw
    go_simp
    first | done | with_reducible rfl
  simp only [Act.put, List.setIfInBounds_toArray, List.set_cons_zero, List.set_cons_succ]
  refine callTake (i := 10) (oi := ⟨some 57, _, _, _, _, _⟩) (v := .int .u64 (num bs 20 8 : Nat)) rfl (by kernel_rfl) (by kernel_rfl) (by kernel_rfl) (fun _ _ _ h => h) rfl 38 #[.slice (some ⟨b, o, none⟩) m c, .int .i64 20] ?hop57 ?hc57 (by assumption) ?rest57
  case hop57 =>
    intro wv
    go_simp
  case hc57 =>
    intro wv hSw
    exact refIdI (p := 20) 44 hSw hm44 rfl
  simp only [Act.put, List.setIfInBounds_toArray, List.set_cons_zero, List.set_cons_succ]
  refine wpAnyH_take (i := 11) (oi := ⟨some 58, _, _, _, _, _⟩) (v := ?_) rfl (by kernel_rfl) (by kernel_rfl) (by kernel_rfl) (fun _ _ _ h => h) (Or.inl ⟨by rfl, ?_⟩) (by assumption) ?_
  rotate_left
  · intro w hSw
    clear hSw
    go_simp
    first | done | with_reducible rfl
  simp only [Act.put, List.setIfInBounds_toArray, List.set_cons_zero, List.set_cons_succ]
  refine callTake (i := 12) (oi := ⟨some 59, _, _, _, _, _⟩) (v := .int .i64 (num bs 28 2 : Nat)) rfl (by kernel_rfl) (by kernel_rfl) (by kernel_rfl) (fun _ _ _ h => h) rfl 36 #[.slice (some ⟨b, o, none⟩) m c, .int .i64 28, .int .i64 2] ?hop59 ?hc59 (by assumption) ?rest59
  case hop59 =>
    intro wv
    go_simp
  case hc59 =>
    intro wv hSw
    exact refGet_any b o m c bs 28 2 wv hSw (by omega) (by omega) (by omega)
  simp only [Act.put, List.setIfInBounds_toArray, List.set_cons_zero, List.set_cons_succ]
  refine wpAnyH_take (i := 13) (oi := ⟨some 60, _, _, _, _, _⟩) (v := ?_) rfl (by kernel_rfl) (by kernel_rfl) (by kernel_rfl) (fun _ _ _ h => h) (Or.inl ⟨by rfl, ?_⟩) (by assumption) ?_
  rotate_left
  · intro w hSw
    clear hSw
    go_simp
    first | done | with_reducible rfl
  simp only [Act.put, List.setIfInBounds_toArray, List.set_cons_zero, List.set_cons_succ]
  refine callTake (i := 14) (oi := ⟨some 61, _, _, _, _, _⟩) (v := .int .i64 (num bs 30 2 : Nat)) rfl (by kernel_rfl) (by kernel_rfl) (by kernel_rfl) (fun _ _ _ h => h) rfl 36 #[.slice (some ⟨b, o, none⟩) m c, .int .i64 30, .int .i64 2] ?hop61 ?hc61 (by assumption) ?rest61
  case hop61 =>
    intro wv
    go_simp
  case hc61 =>
    intro wv hSw
    exact refGet_any b o m c bs 30 2 wv hSw (by omega) (by omega) (by omega)
  simp only [Act.put, List.setIfInBounds_toArray, List.set_cons_zero, List.set_cons_succ]
  refine wpAnyH_take (i := 15) (oi := ⟨some 62, _, _, _, _, _⟩) (v := ?_) rfl (by kernel_rfl) (by kernel_rfl) (by kernel_rfl) (fun _ _ _ h => h) (Or.inl ⟨by rfl, ?_⟩) (by assumption) ?_
  rotate_left
  · intro w hSw
    clear hSw
    go_simp
    first | done | with_reducible rfl
  simp only [Act.put, List.setIfInBounds_toArray, List.set_cons_zero, List.set_cons_succ]
  refine wpAnyH_take (i := 16) (oi := ⟨some 63, _, _, _, _, _⟩) (v := ?_) rfl (by kernel_rfl) (by kernel_rfl) (by kernel_rfl) (fun _ _ _ h => h) (Or.inl ⟨by rfl, ?_⟩) (by assumption) ?_
  rotate_left
  · intro w hSw
    clear hSw
    go_simp
    first | done | with_reducible rfl
  simp only [Act.put, List.setIfInBounds_toArray, List.set_cons_zero, List.set_cons_succ]
  refine wpAnyH_take (i := 17) (oi := ⟨some 64, _, _, _, _, _⟩) (v := ?_) rfl (by kernel_rfl) (by kernel_rfl) (by kernel_rfl) (fun _ _ _ h => h) (Or.inl ⟨by rfl, ?_⟩) (by assumption) ?_
  rotate_left
  · intro w hSw
    have k := rb_cell hSw 33 hi33
    go_simp
    first | done | with_reducible rfl
  simp only [Act.put, List.setIfInBounds_toArray, List.set_cons_zero, List.set_cons_succ]
  refine wpAnyH_take (i := 18) (oi := ⟨some 65, _, _, _, _, _⟩) (v := ?_) rfl (by kernel_rfl) (by kernel_rfl) (by kernel_rfl) (fun _ _ _ h => h) (Or.inl ⟨by rfl, ?_⟩) (by assumption) ?_
  rotate_left
  · intro w hSw
    clear hSw
    go_simp
    first | done | with_reducible rfl
  simp only [Act.put, List.setIfInBounds_toArray, List.set_cons_zero, List.set_cons_succ]
  refine callTake (i := 19) (oi := ⟨some 66, _, _, _, _, _⟩) (v := .int .i64 (sgn (num bs 33 1) 1)) rfl (by kernel_rfl) (by kernel_rfl) (by kernel_rfl) (fun _ _ _ h => h) rfl 39 #[.int .i64 (IntKind.i64.wrap (num bs 33 1 : Nat)), .int .i64 8] ?hop66 ?hc66 (by assumption) ?rest66
  case hop66 =>
    intro wv
    go_simp
  case hc66 =>
    intro wv hSw
    exact HS33.out wv
  simp only [Act.put, List.setIfInBounds_toArray, List.set_cons_zero, List.set_cons_succ]
  refine wpAnyH_take (i := 20) (oi := ⟨some 67, _, _, _, _, _⟩) (v := ?_) rfl (by kernel_rfl) (by kernel_rfl) (by kernel_rfl) (fun _ _ _ h => h) (Or.inl ⟨by rfl, ?_⟩) (by assumption) ?_
  rotate_left
  · intro w hSw
    clear hSw
    go_simp
    first | done | with_reducible rfl
  simp only [Act.put, List.setIfInBounds_toArray, List.set_cons_zero, List.set_cons_succ]
  have hg : w.heap.size ≤ w4.heap.size := hW4.size
  have hne : w.heap.size ≠ w4.heap.size := Nat.ne_of_lt hZ4.lt
  have hth := there21 (Blk.new w4 28 [.int .i64 0, .int .i64 0, .int .i64 0, .int .i64 0, .int .u64 0, .int .i64 0, .int .i64 0, .int .i64 0, .int .i64 0, .int .i64 0, .int .u64 0, .int .i64 0, .int .i64 0, .int .i64 0, .int .i64 0, .int .i64 0, .int .i64 0, .int .i64 0, .int .u64 0, .int .i64 0, .int .i64 0]) rfl
  have hone : (#[.int .i64 K, .int .i64 (IntKind.i64.wrap (num bs 4 1 : Nat)), .int .i64 (num bs 6 2 : Nat), .int .i64 (sgn (num bs 8 8) 8), .int .u64 (num bs 20 8 : Nat), .int .i64 (num bs 28 2 : Nat), .int .i64 (num bs 30 2 : Nat), .int .i64 (sgn (num bs 33 1) 1), .int .i64 0, .int .i64 0, .int .u64 0, .int .i64 0, .int .i64 0, .int .i64 0, .int .i64 0, .int .i64 0, .int .i64 0, .int .i64 0, .int .u64 0, .int .i64 0, .int .i64 0] : Array Value).all (·.oneCell') = true := all_oneCell_toArray (by repeat (first | exact List.forall_mem_nil _ | refine List.forall_mem_cons.2 ⟨rfl, ?_⟩))
  have hN5 := blk_setCells [.int .i64 K, .int .i64 (IntKind.i64.wrap (num bs 4 1 : Nat)), .int .i64 (num bs 6 2 : Nat), .int .i64 (sgn (num bs 8 8) 8), .int .u64 (num bs 20 8 : Nat), .int .i64 (num bs 28 2 : Nat), .int .i64 (num bs 30 2 : Nat), .int .i64 (sgn (num bs 33 1) 1), .int .i64 0, .int .i64 0, .int .u64 0, .int .i64 0, .int .i64 0, .int .i64 0, .int .i64 0, .int .i64 0, .int .i64 0, .int .i64 0, .int .u64 0, .int .i64 0, .int .i64 0] [] [.int .i64 0, .int .i64 0, .int .i64 0, .int .i64 0, .int .u64 0, .int .i64 0, .int .i64 0, .int .i64 0, .int .i64 0, .int .i64 0, .int .u64 0, .int .i64 0, .int .i64 0, .int .i64 0, .int .i64 0, .int .i64 0, .int .i64 0, .int .i64 0, .int .u64 0, .int .i64 0, .int .i64 0] _ (Blk.new w4 28 [.int .i64 0, .int .i64 0, .int .i64 0, .int .i64 0, .int .u64 0, .int .i64 0, .int .i64 0, .int .i64 0, .int .i64 0, .int .i64 0, .int .u64 0, .int .i64 0, .int .i64 0, .int .i64 0, .int .i64 0, .int .i64 0, .int .i64 0, .int .i64 0, .int .u64 0, .int .i64 0, .int .i64 0]) rfl
  have hZ5 := blk_farCells hne [.int .i64 K, .int .i64 (IntKind.i64.wrap (num bs 4 1 : Nat)), .int .i64 (num bs 6 2 : Nat), .int .i64 (sgn (num bs 8 8) 8), .int .u64 (num bs 20 8 : Nat), .int .i64 (num bs 28 2 : Nat), .int .i64 (num bs 30 2 : Nat), .int .i64 (sgn (num bs 33 1) 1), .int .i64 0, .int .i64 0, .int .u64 0, .int .i64 0, .int .i64 0, .int .i64 0, .int .i64 0, .int .i64 0, .int .i64 0, .int .i64 0, .int .u64 0, .int .i64 0, .int .i64 0] 0 _ (hZ4.alloc (.cells #[.int .i64 0, .int .i64 0, .int .i64 0, .int .i64 0, .int .u64 0, .int .i64 0, .int .i64 0, .int .i64 0, .int .i64 0, .int .i64 0, .int .u64 0, .int .i64 0, .int .i64 0, .int .i64 0, .int .i64 0, .int .i64 0, .int .i64 0, .int .i64 0, .int .u64 0, .int .i64 0, .int .i64 0] 28))
  have hW5 := below_setCells hg [.int .i64 K, .int .i64 (IntKind.i64.wrap (num bs 4 1 : Nat)), .int .i64 (num bs 6 2 : Nat), .int .i64 (sgn (num bs 8 8) 8), .int .u64 (num bs 20 8 : Nat), .int .i64 (num bs 28 2 : Nat), .int .i64 (num bs 30 2 : Nat), .int .i64 (sgn (num bs 33 1) 1), .int .i64 0, .int .i64 0, .int .u64 0, .int .i64 0, .int .i64 0, .int .i64 0, .int .i64 0, .int .i64 0, .int .i64 0, .int .i64 0, .int .u64 0, .int .i64 0, .int .i64 0] 0 _ (hW4.alloc hg (.cells #[.int .i64 0, .int .i64 0, .int .i64 0, .int .i64 0, .int .u64 0, .int .i64 0, .int .i64 0, .int .i64 0, .int .i64 0, .int .i64 0, .int .u64 0, .int .i64 0, .int .i64 0, .int .i64 0, .int .i64 0, .int .i64 0, .int .i64 0, .int .i64 0, .int .u64 0, .int .i64 0, .int .i64 0] 28))
  have hr5 := h.below hW5
  refine wpAnyH_ready (rs := [21]) (by kernel_rfl) (by simp) (AllReadyH.cons (o := ⟨some 6, _, _, _, _, _⟩) rfl (fun KK hKK => ?_) AllReadyH.nil)
  go_simp
  refine hKK.out _ _ (hr4.alloc _) (fun hHeld => ?_)
  clear hKK KK
  try simp only [Act.put, List.setIfInBounds_toArray, List.set_cons_zero, List.set_cons_succ]
  refine wpAnyH_ready (rs := [22]) (by kernel_rfl) (by simp) (AllReadyH.cons (o := ⟨none, _, _, _, _, _⟩) rfl (fun KK hKK => ?_) AllReadyH.nil)
  rw [if_pos (by rfl)]
  refine wp_store_mid 28 _ _ rfl w4.heap.size 0 #[.int .i64 K, .int .i64 (IntKind.i64.wrap (num bs 4 1 : Nat)), .int .i64 (num bs 6 2 : Nat), .int .i64 (sgn (num bs 8 8) 8), .int .u64 (num bs 20 8 : Nat), .int .i64 (num bs 28 2 : Nat), .int .i64 (num bs 30 2 : Nat), .int .i64 (sgn (num bs 33 1) 1), .int .i64 0, .int .i64 0, .int .u64 0, .int .i64 0, .int .i64 0, .int .i64 0, .int .i64 0, .int .i64 0, .int .i64 0, .int .i64 0, .int .u64 0, .int .i64 0, .int .i64 0] rfl rfl hth info21 hone ?_
  refine hKK.out _ _ hr5 (fun hHeld => ?_)
  clear hKK KK
  try simp only [Act.put]
  refine wpAnyH_done (by kernel_rfl) ?_ _
  obtain ⟨W5, hWW⟩ : ∃ W, W = (w4.alloc (.cells #[.int .i64 0, .int .i64 0, .int .i64 0, .int .i64 0, .int .u64 0, .int .i64 0, .int .i64 0, .int .i64 0, .int .i64 0, .int .i64 0, .int .u64 0, .int .i64 0, .int .i64 0, .int .i64 0, .int .i64 0, .int .i64 0, .int .i64 0, .int .i64 0, .int .u64 0, .int .i64 0, .int .i64 0] 28)).setCells w4.heap.size 0 [.int .i64 K, .int .i64 (IntKind.i64.wrap (num bs 4 1 : Nat)), .int .i64 (num bs 6 2 : Nat), .int .i64 (sgn (num bs 8 8) 8), .int .u64 (num bs 20 8 : Nat), .int .i64 (num bs 28 2 : Nat), .int .i64 (num bs 30 2 : Nat), .int .i64 (sgn (num bs 33 1) 1), .int .i64 0, .int .i64 0, .int .u64 0, .int .i64 0, .int .i64 0, .int .i64 0, .int .i64 0, .int .i64 0, .int .i64 0, .int .i64 0, .int .u64 0, .int .i64 0, .int .i64 0] := ⟨_, rfl⟩
  change Blk ((w4.alloc (.cells #[.int .i64 0, .int .i64 0, .int .i64 0, .int .i64 0, .int .u64 0, .int .i64 0, .int .i64 0, .int .i64 0, .int .i64 0, .int .i64 0, .int .u64 0, .int .i64 0, .int .i64 0, .int .i64 0, .int .i64 0, .int .i64 0, .int .i64 0, .int .i64 0, .int .u64 0, .int .i64 0, .int .i64 0] 28)).setCells w4.heap.size 0 [.int .i64 K, .int .i64 (IntKind.i64.wrap (num bs 4 1 : Nat)), .int .i64 (num bs 6 2 : Nat), .int .i64 (sgn (num bs 8 8) 8), .int .u64 (num bs 20 8 : Nat), .int .i64 (num bs 28 2 : Nat), .int .i64 (num bs 30 2 : Nat), .int .i64 (sgn (num bs 33 1) 1), .int .i64 0, .int .i64 0, .int .u64 0, .int .i64 0, .int .i64 0, .int .i64 0, .int .i64 0, .int .i64 0, .int .i64 0, .int .i64 0, .int .u64 0, .int .i64 0, .int .i64 0]) _ _ [.int .i64 K, .int .i64 (IntKind.i64.wrap (num bs 4 1 : Nat)), .int .i64 (num bs 6 2 : Nat), .int .i64 (sgn (num bs 8 8) 8), .int .u64 (num bs 20 8 : Nat), .int .i64 (num bs 28 2 : Nat), .int .i64 (num bs 30 2 : Nat), .int .i64 (sgn (num bs 33 1) 1), .int .i64 0, .int .i64 0, .int .u64 0, .int .i64 0, .int .i64 0, .int .i64 0, .int .i64 0, .int .i64 0, .int .i64 0, .int .i64 0, .int .u64 0, .int .i64 0, .int .i64 0] at hN5
  rw [← hWW] at hN5 hZ5 hW5 hr5 ⊢
  clear hWW hHeld hr4 hW4 hZ4 hth hone
  rw [wnum bs 4 1 (by omega)] at hN5
  have c8 := hN5.cell 8
  have f8 := hN5.frozen 8
  simp only [List.getElem?_cons_zero, List.getElem?_cons_succ] at c8
  have c9 := hN5.cell 9
  have f9 := hN5.frozen 9
  simp only [List.getElem?_cons_zero, List.getElem?_cons_succ] at c9
  go_wp2_with fail
  refine (refGet_any b o m c bs 34 6 W5 hr5 (by omega) (by omega) (by omega)).mono ?_
  rintro e w6 ⟨rfl, rfl⟩
  go_wp2_with fail
  refine (refGet_any b o m c bs 40 4 W5 hr5 (by omega) (by omega) (by omega)).mono ?_
  rintro e w6 ⟨rfl, rfl⟩
  have hN5a := hN5.set_ 8 (.int .i64 (num bs 34 6 : Nat))
  have hZ5a := hZ5.far (p := ⟨w4.heap.size, 8, none⟩) hne (.int .i64 (num bs 34 6 : Nat))
  have hW5a := hW5.setCell (p := ⟨w4.heap.size, 8, none⟩) hg (.int .i64 (num bs 34 6 : Nat))
  have hN6 := hN5a.set_ 9 (.int .i64 (num bs 40 4 : Nat))
  have hZ6 := hZ5a.far (p := ⟨w4.heap.size, 9, none⟩) hne (.int .i64 (num bs 40 4 : Nat))
  have hW6 := hW5a.setCell (p := ⟨w4.heap.size, 9, none⟩) hg (.int .i64 (num bs 40 4 : Nat))
  simp only [List.set_cons_zero, List.set_cons_succ] at hN6
  go_upto_region 17 with (fail)
  obtain ⟨W6, hWW⟩ : ∃ W, W = (W5.setCell ⟨w4.heap.size, 8, none⟩ (.int .i64 (num bs 34 6 : Nat))).setCell ⟨w4.heap.size, 9, none⟩ (.int .i64 (num bs 40 4 : Nat)) := ⟨_, rfl⟩
  rw [← hWW] at hN6 hZ6 hW6 ⊢
  clear hWW
  have hr6 := h.below hW6
  clear c8 f8 c9 f9 hN5 hZ5 hW5 hr5 hN5a hZ5a hW5a
  cases hq : isReq K
  · have hk := Hno.out hq
    have hk11 := Hann.out hq
    clear Hreq Hno Hann
    by_cases h11 : K = 11
    · have h64 : 64 ≤ m := by have := Hsz.out; subst h11; have e : sizeOfKind 11 = 64 := rfl; omega
      have hkb : (K == 11) = true := by simpa using h11
      have hcp11 := hk11 h11
      clear hk hk11
      have H11 := hide h11
      have Hcp := hide hcp11
      clear h11 hcp11
      go_wp2_with ((go_at_call 24; refine (refReq_any _ _).mono ?_; rintro e w2 ⟨rfl, rfl⟩; rw [hq]))
      have hr7 := rb_drew hr6
      have hN7 := hN6.below' (Below.refl _ _).drew
      have hZ7 := hZ6.below' (Below.refl _ _).drew
      have hW7 := hW6.drew
      have hi47 : 47 < bs.length := by have := Hl.out; omega
      have hj47 : (47 : Int) < (m : Int) := by omega
      have hi48 : 48 < bs.length := by have := Hl.out; omega
      have hj48 : (48 : Int) < (m : Int) := by omega
      have hi49 : 49 < bs.length := by have := Hl.out; omega
      have hj49 : (49 : Int) < (m : Int) := by omega
      have hi52 : 52 < bs.length := by have := Hl.out; omega
      have hj52 : (52 : Int) < (m : Int) := by omega
      have hi63 : 63 < bs.length := by have := Hl.out; omega
      have hj63 : (63 : Int) < (m : Int) := by omega
      have HS44 := hide (fun w => refSigned2_any (num bs 44 2) w (num_lt bs 44 2 (by omega)))
      clear hr6 hN6 hZ6 hW6
      refine wp_region_held_drew (S := fun w' => RB w' (some ⟨b, o, none⟩) m c bs) (by kernel_rfl) hr7 (fun hHeld => ?_)
      generalize W6.drew = w7 at *
      refine wpAnyH_take (i := 0) (oi := ⟨some 84, _, _, _, _, _⟩) (v := ?_) rfl (by kernel_rfl) (by kernel_rfl) (by kernel_rfl) (fun _ _ _ h => h) (Or.inl ⟨by rfl, ?_⟩) (by assumption) ?_
      rotate_left
      · intro w hSw
        clear hSw
        go_simp
        first | done | with_reducible rfl
      simp only [Act.put, List.setIfInBounds_toArray, List.set_cons_zero, List.set_cons_succ]
      refine callTake (i := 1) (oi := ⟨some 85, _, _, _, _, _⟩) (v := .int .i64 (num bs 44 2 : Nat)) rfl (by kernel_rfl) (by kernel_rfl) (by kernel_rfl) (fun _ _ _ h => h) rfl 36 #[.slice (some ⟨b, o, none⟩) m c, .int .i64 44, .int .i64 2] ?hop85 ?hc85 (by assumption) ?rest85
      case hop85 =>
        intro wv
        go_simp
      case hc85 =>
        intro wv hSw
        exact refGet_any b o m c bs 44 2 wv hSw (by omega) (by omega) (by omega)
      simp only [Act.put, List.setIfInBounds_toArray, List.set_cons_zero, List.set_cons_succ]
      refine callTake (i := 2) (oi := ⟨some 86, _, _, _, _, _⟩) (v := .int .i64 (sgn (num bs 44 2) 2)) rfl (by kernel_rfl) (by kernel_rfl) (by kernel_rfl) (fun _ _ _ h => h) rfl 39 #[.int .i64 (num bs 44 2 : Nat), .int .i64 16] ?hop86 ?hc86 (by assumption) ?rest86
      case hop86 =>
        intro wv
        go_simp
      case hc86 =>
        intro wv hSw
        exact HS44.out wv
      simp only [Act.put, List.setIfInBounds_toArray, List.set_cons_zero, List.set_cons_succ]
      refine wpAnyH_take (i := 3) (oi := ⟨some 87, _, _, _, _, _⟩) (v := ?_) rfl (by kernel_rfl) (by kernel_rfl) (by kernel_rfl) (fun _ _ _ h => h) (Or.inl ⟨by rfl, ?_⟩) (by assumption) ?_
      rotate_left
      · intro w hSw
        clear hSw
        go_simp
        first | done | with_reducible rfl
      simp only [Act.put, List.setIfInBounds_toArray, List.set_cons_zero, List.set_cons_succ]
      refine wpAnyH_take (i := 4) (oi := ⟨some 88, _, _, _, _, _⟩) (v := ?_) rfl (by kernel_rfl) (by kernel_rfl) (by kernel_rfl) (fun _ _ _ h => h) (Or.inl ⟨by rfl, ?_⟩) (by assumption) ?_
      rotate_left
      · intro w hSw
        clear hSw
        go_simp
        first | done | with_reducible rfl
      simp only [Act.put, List.setIfInBounds_toArray, List.set_cons_zero, List.set_cons_succ]
      refine wpAnyH_take (i := 5) (oi := ⟨some 89, _, _, _, _, _⟩) (v := ?_) rfl (by kernel_rfl) (by kernel_rfl) (by kernel_rfl) (fun _ _ _ h => h) (Or.inl ⟨by rfl, ?_⟩) (by assumption) ?_
      rotate_left
      · intro w hSw
        have k := rb_cell hSw 47 hi47
        go_simp
        first | done | with_reducible rfl
      simp only [Act.put, List.setIfInBounds_toArray, List.set_cons_zero, List.set_cons_succ]
      refine wpAnyH_take (i := 6) (oi := ⟨some 90, _, _, _, _, _⟩) (v := ?_) rfl (by kernel_rfl) (by kernel_rfl) (by kernel_rfl) (fun _ _ _ h => h) (Or.inl ⟨by rfl, ?_⟩) (by assumption) ?_
      rotate_left
      · intro w hSw
        clear hSw
        go_simp
        first | done | with_reducible rfl
      simp only [Act.put, List.setIfInBounds_toArray, List.set_cons_zero, List.set_cons_succ]
      refine wpAnyH_take (i := 7) (oi := ⟨some 91, _, _, _, _, _⟩) (v := ?_) rfl (by kernel_rfl) (by kernel_rfl) (by kernel_rfl) (fun _ _ _ h => h) (Or.inl ⟨by rfl, ?_⟩) (by assumption) ?_
      rotate_left
      · intro w hSw
        clear hSw
        go_simp
        first | done | with_reducible rfl
      simp only [Act.put, List.setIfInBounds_toArray, List.set_cons_zero, List.set_cons_succ]
      refine wpAnyH_take (i := 8) (oi := ⟨some 92, _, _, _, _, _⟩) (v := ?_) rfl (by kernel_rfl) (by kernel_rfl) (by kernel_rfl) (fun _ _ _ h => h) (Or.inl ⟨by rfl, ?_⟩) (by assumption) ?_
      rotate_left
      · intro w hSw
        clear hSw
        go_simp
        first | done | with_reducible rfl
      simp only [Act.put, List.setIfInBounds_toArray, List.set_cons_zero, List.set_cons_succ]
      refine wpAnyH_take (i := 9) (oi := ⟨some 93, _, _, _, _, _⟩) (v := ?_) rfl (by kernel_rfl) (by kernel_rfl) (by kernel_rfl) (fun _ _ _ h => h) (Or.inl ⟨by rfl, ?_⟩) (by assumption) ?_
      rotate_left
      · intro w hSw
        have k := rb_cell hSw 48 hi48
        go_simp
        first | done | with_reducible rfl
      simp only [Act.put, List.setIfInBounds_toArray, List.set_cons_zero, List.set_cons_succ]
      refine wpAnyH_take (i := 10) (oi := ⟨some 94, _, _, _, _, _⟩) (v := ?_) rfl (by kernel_rfl) (by kernel_rfl) (by kernel_rfl) (fun _ _ _ h => h) (Or.inl ⟨by rfl, ?_⟩) (by assumption) ?_
      rotate_left
      · intro w hSw
        clear hSw
        go_simp
        first | done | with_reducible rfl
      simp only [Act.put, List.setIfInBounds_toArray, List.set_cons_zero, List.set_cons_succ]
      refine wpAnyH_take (i := 11) (oi := ⟨some 95, _, _, _, _, _⟩) (v := ?_) rfl (by kernel_rfl) (by kernel_rfl) (by kernel_rfl) (fun _ _ _ h => h) (Or.inl ⟨by rfl, ?_⟩) (by assumption) ?_
      rotate_left
      · intro w hSw
        clear hSw
        go_simp
        first | done | with_reducible rfl
      simp only [Act.put, List.setIfInBounds_toArray, List.set_cons_zero, List.set_cons_succ]
      refine wpAnyH_take (i := 12) (oi := ⟨some 96, _, _, _, _, _⟩) (v := ?_) rfl (by kernel_rfl) (by kernel_rfl) (by kernel_rfl) (fun _ _ _ h => h) (Or.inl ⟨by rfl, ?_⟩) (by assumption) ?_
      rotate_left
      · intro w hSw
        clear hSw
        go_simp
        first | done | with_reducible rfl
      simp only [Act.put, List.setIfInBounds_toArray, List.set_cons_zero, List.set_cons_succ]
      refine wpAnyH_take (i := 13) (oi := ⟨some 97, _, _, _, _, _⟩) (v := ?_) rfl (by kernel_rfl) (by kernel_rfl) (by kernel_rfl) (fun _ _ _ h => h) (Or.inl ⟨by rfl, ?_⟩) (by assumption) ?_
      rotate_left
      · intro w hSw
        have k := rb_cell hSw 49 hi49
        go_simp
        first | done | with_reducible rfl
      simp only [Act.put, List.setIfInBounds_toArray, List.set_cons_zero, List.set_cons_succ]
      refine wpAnyH_take (i := 14) (oi := ⟨some 98, _, _, _, _, _⟩) (v := ?_) rfl (by kernel_rfl) (by kernel_rfl) (by kernel_rfl) (fun _ _ _ h => h) (Or.inl ⟨by rfl, ?_⟩) (by assumption) ?_
      rotate_left
      · intro w hSw
        clear hSw
        go_simp
        first | done | with_reducible rfl
      simp only [Act.put, List.setIfInBounds_toArray, List.set_cons_zero, List.set_cons_succ]
      refine wpAnyH_take (i := 15) (oi := ⟨some 99, _, _, _, _, _⟩) (v := ?_) rfl (by kernel_rfl) (by kernel_rfl) (by kernel_rfl) (fun _ _ _ h => h) (Or.inl ⟨by rfl, ?_⟩) (by assumption) ?_
      rotate_left
      · intro w hSw
        clear hSw
        go_simp
        first | done | with_reducible rfl
      simp only [Act.put, List.setIfInBounds_toArray, List.set_cons_zero, List.set_cons_succ]
      refine callTake (i := 16) (oi := ⟨some 100, _, _, _, _, _⟩) (v := .int .i64 (num bs 50 2 : Nat)) rfl (by kernel_rfl) (by kernel_rfl) (by kernel_rfl) (fun _ _ _ h => h) rfl 36 #[.slice (some ⟨b, o, none⟩) m c, .int .i64 50, .int .i64 2] ?hop100 ?hc100 (by assumption) ?rest100
      case hop100 =>
        intro wv
        go_simp
      case hc100 =>
        intro wv hSw
        exact refGet_any b o m c bs 50 2 wv hSw (by omega) (by omega) (by omega)
      simp only [Act.put, List.setIfInBounds_toArray, List.set_cons_zero, List.set_cons_succ]
      refine wpAnyH_take (i := 17) (oi := ⟨some 101, _, _, _, _, _⟩) (v := ?_) rfl (by kernel_rfl) (by kernel_rfl) (by kernel_rfl) (fun _ _ _ h => h) (Or.inl ⟨by rfl, ?_⟩) (by assumption) ?_
      rotate_left
      · intro w hSw
        clear hSw
        go_simp
        first | done | with_reducible rfl
      simp only [Act.put, List.setIfInBounds_toArray, List.set_cons_zero, List.set_cons_succ]
      refine wpAnyH_take (i := 18) (oi := ⟨some 102, _, _, _, _, _⟩) (v := ?_) rfl (by kernel_rfl) (by kernel_rfl) (by kernel_rfl) (fun _ _ _ h => h) (Or.inl ⟨by rfl, ?_⟩) (by assumption) ?_
      rotate_left
      · intro w hSw
        clear hSw
        go_simp
        first | done | with_reducible rfl
      simp only [Act.put, List.setIfInBounds_toArray, List.set_cons_zero, List.set_cons_succ]
      refine wpAnyH_take (i := 19) (oi := ⟨some 103, _, _, _, _, _⟩) (v := ?_) rfl (by kernel_rfl) (by kernel_rfl) (by kernel_rfl) (fun _ _ _ h => h) (Or.inl ⟨by rfl, ?_⟩) (by assumption) ?_
      rotate_left
      · intro w hSw
        have k := rb_cell hSw 52 hi52
        go_simp
        first | done | with_reducible rfl
      simp only [Act.put, List.setIfInBounds_toArray, List.set_cons_zero, List.set_cons_succ]
      refine wpAnyH_take (i := 20) (oi := ⟨some 104, _, _, _, _, _⟩) (v := ?_) rfl (by kernel_rfl) (by kernel_rfl) (by kernel_rfl) (fun _ _ _ h => h) (Or.inl ⟨by rfl, ?_⟩) (by assumption) ?_
      rotate_left
      · intro w hSw
        clear hSw
        go_simp
        first | done | with_reducible rfl
      simp only [Act.put, List.setIfInBounds_toArray, List.set_cons_zero, List.set_cons_succ]
      refine wpAnyH_take (i := 21) (oi := ⟨some 105, _, _, _, _, _⟩) (v := ?_) rfl (by kernel_rfl) (by kernel_rfl) (by kernel_rfl) (fun _ _ _ h => h) (Or.inl ⟨by rfl, ?_⟩) (by assumption) ?_
      rotate_left
      · intro w hSw
        clear hSw
        go_simp
        first | done | with_reducible rfl
      simp only [Act.put, List.setIfInBounds_toArray, List.set_cons_zero, List.set_cons_succ]
      refine callTake (i := 22) (oi := ⟨some 106, _, _, _, _, _⟩) (v := .int .u64 (num bs 53 8 : Nat)) rfl (by kernel_rfl) (by kernel_rfl) (by kernel_rfl) (fun _ _ _ h => h) rfl 38 #[.slice (some ⟨b, o, none⟩) m c, .int .i64 53] ?hop106 ?hc106 (by assumption) ?rest106
      case hop106 =>
        intro wv
        go_simp
      case hc106 =>
        intro wv hSw
        exact refIdI (p := 53) 64 hSw h64 rfl
      simp only [Act.put, List.setIfInBounds_toArray, List.set_cons_zero, List.set_cons_succ]
      refine wpAnyH_take (i := 23) (oi := ⟨some 107, _, _, _, _, _⟩) (v := ?_) rfl (by kernel_rfl) (by kernel_rfl) (by kernel_rfl) (fun _ _ _ h => h) (Or.inl ⟨by rfl, ?_⟩) (by assumption) ?_
      rotate_left
      · intro w hSw
        clear hSw
        go_simp
        first | done | with_reducible rfl
      simp only [Act.put, List.setIfInBounds_toArray, List.set_cons_zero, List.set_cons_succ]
      refine callTake (i := 24) (oi := ⟨some 108, _, _, _, _, _⟩) (v := .int .i64 (num bs 61 2 : Nat)) rfl (by kernel_rfl) (by kernel_rfl) (by kernel_rfl) (fun _ _ _ h => h) rfl 36 #[.slice (some ⟨b, o, none⟩) m c, .int .i64 61, .int .i64 2] ?hop108 ?hc108 (by assumption) ?rest108
      case hop108 =>
        intro wv
        go_simp
      case hc108 =>
        intro wv hSw
        exact refGet_any b o m c bs 61 2 wv hSw (by omega) (by omega) (by omega)
      simp only [Act.put, List.setIfInBounds_toArray, List.set_cons_zero, List.set_cons_succ]
      refine wpAnyH_take (i := 25) (oi := ⟨some 109, _, _, _, _, _⟩) (v := ?_) rfl (by kernel_rfl) (by kernel_rfl) (by kernel_rfl) (fun _ _ _ h => h) (Or.inl ⟨by rfl, ?_⟩) (by assumption) ?_
      rotate_left
      · intro w hSw
        clear hSw
        go_simp
        first | done | with_reducible rfl
      simp only [Act.put, List.setIfInBounds_toArray, List.set_cons_zero, List.set_cons_succ]
      refine wpAnyH_take (i := 26) (oi := ⟨some 110, _, _, _, _, _⟩) (v := ?_) rfl (by kernel_rfl) (by kernel_rfl) (by kernel_rfl) (fun _ _ _ h => h) (Or.inl ⟨by rfl, ?_⟩) (by assumption) ?_
      rotate_left
      · intro w hSw
        clear hSw
        go_simp
        first | done | with_reducible rfl
      simp only [Act.put, List.setIfInBounds_toArray, List.set_cons_zero, List.set_cons_succ]
      refine wpAnyH_take (i := 27) (oi := ⟨some 111, _, _, _, _, _⟩) (v := ?_) rfl (by kernel_rfl) (by kernel_rfl) (by kernel_rfl) (fun _ _ _ h => h) (Or.inl ⟨by rfl, ?_⟩) (by assumption) ?_
      rotate_left
      · intro w hSw
        have k := rb_cell hSw 63 hi63
        go_simp
        first | done | with_reducible rfl
      simp only [Act.put, List.setIfInBounds_toArray, List.set_cons_zero, List.set_cons_succ]
      refine wpAnyH_take (i := 28) (oi := ⟨some 112, _, _, _, _, _⟩) (v := ?_) rfl (by kernel_rfl) (by kernel_rfl) (by kernel_rfl) (fun _ _ _ h => h) (Or.inl ⟨by rfl, ?_⟩) (by assumption) ?_
      rotate_left
      · intro w hSw
        clear hSw
        go_simp
        first | done | with_reducible rfl
      simp only [Act.put, List.setIfInBounds_toArray, List.set_cons_zero, List.set_cons_succ]
      refine wpAnyH_take (i := 29) (oi := ⟨some 113, _, _, _, _, _⟩) (v := ?_) rfl (by kernel_rfl) (by kernel_rfl) (by kernel_rfl) (fun _ _ _ h => h) (Or.inl ⟨by rfl, ?_⟩) (by assumption) ?_
      rotate_left
      · intro w hSw
        clear hSw
        go_simp
        first | done | with_reducible rfl
      simp only [Act.put, List.setIfInBounds_toArray, List.set_cons_zero, List.set_cons_succ]
      refine wpAnyH_take (i := 30) (oi := ⟨some 114, _, _, _, _, _⟩) (v := ?_) rfl (by kernel_rfl) (by kernel_rfl) (by kernel_rfl) (fun _ _ _ h => h) (Or.inl ⟨by rfl, ?_⟩) (by assumption) ?_
      rotate_left
      · intro w hSw
        clear hSw
        go_simp
        first | done | with_reducible rfl
      simp only [Act.put, List.setIfInBounds_toArray, List.set_cons_zero, List.set_cons_succ]
      have hth : w7.there w4.heap.size 12 9 := there_at hN7 12 9 (by simp)
      have hone : (#[.int .i64 (sgn (num bs 44 2) 2), .int .i64 (IntKind.i64.wrap (num bs 47 1 : Nat)), .int .i64 (IntKind.i64.wrap (num bs 48 1 : Nat)), .int .i64 (IntKind.i64.wrap (num bs 49 1 : Nat)), .int .i64 (num bs 50 2 : Nat), .int .i64 (IntKind.i64.wrap (num bs 52 1 : Nat)), .int .u64 (num bs 53 8 : Nat), .int .i64 (num bs 61 2 : Nat), .int .i64 (IntKind.i64.wrap (num bs 63 1 : Nat))] : Array Value).all (·.oneCell') = true := all_oneCell_toArray (by repeat (first | exact List.forall_mem_nil _ | refine List.forall_mem_cons.2 ⟨rfl, ?_⟩))
      have hN8 := blk_setCells [.int .i64 (sgn (num bs 44 2) 2), .int .i64 (IntKind.i64.wrap (num bs 47 1 : Nat)), .int .i64 (IntKind.i64.wrap (num bs 48 1 : Nat)), .int .i64 (IntKind.i64.wrap (num bs 49 1 : Nat)), .int .i64 (num bs 50 2 : Nat), .int .i64 (IntKind.i64.wrap (num bs 52 1 : Nat)), .int .u64 (num bs 53 8 : Nat), .int .i64 (num bs 61 2 : Nat), .int .i64 (IntKind.i64.wrap (num bs 63 1 : Nat))] [.int .i64 K, .int .i64 (num bs 4 1 : Nat), .int .i64 (num bs 6 2 : Nat), .int .i64 (sgn (num bs 8 8) 8), .int .u64 (num bs 20 8 : Nat), .int .i64 (num bs 28 2 : Nat), .int .i64 (num bs 30 2 : Nat), .int .i64 (sgn (num bs 33 1) 1), .int .i64 (num bs 34 6 : Nat), .int .i64 (num bs 40 4 : Nat), .int .u64 0, .int .i64 0] [.int .i64 0, .int .i64 0, .int .i64 0, .int .i64 0, .int .i64 0, .int .i64 0, .int .u64 0, .int .i64 0, .int .i64 0] w7 hN7 rfl
      change Blk (w7.setCells w4.heap.size 12 [.int .i64 (sgn (num bs 44 2) 2), .int .i64 (IntKind.i64.wrap (num bs 47 1 : Nat)), .int .i64 (IntKind.i64.wrap (num bs 48 1 : Nat)), .int .i64 (IntKind.i64.wrap (num bs 49 1 : Nat)), .int .i64 (num bs 50 2 : Nat), .int .i64 (IntKind.i64.wrap (num bs 52 1 : Nat)), .int .u64 (num bs 53 8 : Nat), .int .i64 (num bs 61 2 : Nat), .int .i64 (IntKind.i64.wrap (num bs 63 1 : Nat))]) w4.heap.size 28 ([.int .i64 K, .int .i64 (num bs 4 1 : Nat), .int .i64 (num bs 6 2 : Nat), .int .i64 (sgn (num bs 8 8) 8), .int .u64 (num bs 20 8 : Nat), .int .i64 (num bs 28 2 : Nat), .int .i64 (num bs 30 2 : Nat), .int .i64 (sgn (num bs 33 1) 1), .int .i64 (num bs 34 6 : Nat), .int .i64 (num bs 40 4 : Nat), .int .u64 0, .int .i64 0] ++ [.int .i64 (sgn (num bs 44 2) 2), .int .i64 (IntKind.i64.wrap (num bs 47 1 : Nat)), .int .i64 (IntKind.i64.wrap (num bs 48 1 : Nat)), .int .i64 (IntKind.i64.wrap (num bs 49 1 : Nat)), .int .i64 (num bs 50 2 : Nat), .int .i64 (IntKind.i64.wrap (num bs 52 1 : Nat)), .int .u64 (num bs 53 8 : Nat), .int .i64 (num bs 61 2 : Nat), .int .i64 (IntKind.i64.wrap (num bs 63 1 : Nat))]) at hN8
      simp only [List.cons_append, List.nil_append] at hN8
      have hZ8 := blk_farCells hne [.int .i64 (sgn (num bs 44 2) 2), .int .i64 (IntKind.i64.wrap (num bs 47 1 : Nat)), .int .i64 (IntKind.i64.wrap (num bs 48 1 : Nat)), .int .i64 (IntKind.i64.wrap (num bs 49 1 : Nat)), .int .i64 (num bs 50 2 : Nat), .int .i64 (IntKind.i64.wrap (num bs 52 1 : Nat)), .int .u64 (num bs 53 8 : Nat), .int .i64 (num bs 61 2 : Nat), .int .i64 (IntKind.i64.wrap (num bs 63 1 : Nat))] 12 _ hZ7
      have hW8 := below_setCells hg [.int .i64 (sgn (num bs 44 2) 2), .int .i64 (IntKind.i64.wrap (num bs 47 1 : Nat)), .int .i64 (IntKind.i64.wrap (num bs 48 1 : Nat)), .int .i64 (IntKind.i64.wrap (num bs 49 1 : Nat)), .int .i64 (num bs 50 2 : Nat), .int .i64 (IntKind.i64.wrap (num bs 52 1 : Nat)), .int .u64 (num bs 53 8 : Nat), .int .i64 (num bs 61 2 : Nat), .int .i64 (IntKind.i64.wrap (num bs 63 1 : Nat))] 12 _ hW7
      have hr8 := h.below hW8
      refine wpAnyH_ready (rs := [31]) (by kernel_rfl) (by simp) (AllReadyH.cons (o := ⟨none, _, _, _, _, _⟩) rfl (fun KK hKK => ?_) AllReadyH.nil)
      rw [if_pos (by rfl)]
      refine wp_store_mid 26 _ _ rfl w4.heap.size 12 #[.int .i64 (sgn (num bs 44 2) 2), .int .i64 (IntKind.i64.wrap (num bs 47 1 : Nat)), .int .i64 (IntKind.i64.wrap (num bs 48 1 : Nat)), .int .i64 (IntKind.i64.wrap (num bs 49 1 : Nat)), .int .i64 (num bs 50 2 : Nat), .int .i64 (IntKind.i64.wrap (num bs 52 1 : Nat)), .int .u64 (num bs 53 8 : Nat), .int .i64 (num bs 61 2 : Nat), .int .i64 (IntKind.i64.wrap (num bs 63 1 : Nat))] rfl rfl hth info9 hone ?_
      refine hKK.out _ _ hr8 (fun hHeld => ?_)
      clear hKK KK
      try simp only [Act.put]
      refine wpAnyH_done (by kernel_rfl) ?_ _
      obtain ⟨W8, hWW⟩ : ∃ W, W = w7.setCells w4.heap.size 12 [.int .i64 (sgn (num bs 44 2) 2), .int .i64 (IntKind.i64.wrap (num bs 47 1 : Nat)), .int .i64 (IntKind.i64.wrap (num bs 48 1 : Nat)), .int .i64 (IntKind.i64.wrap (num bs 49 1 : Nat)), .int .i64 (num bs 50 2 : Nat), .int .i64 (IntKind.i64.wrap (num bs 52 1 : Nat)), .int .u64 (num bs 53 8 : Nat), .int .i64 (num bs 61 2 : Nat), .int .i64 (IntKind.i64.wrap (num bs 63 1 : Nat))] := ⟨_, rfl⟩
      rw [← hWW] at hN8 hZ8 hW8 hr8 ⊢
      clear hWW hHeld hr7 hN7 hZ7 hW7 hth hone
      rw [wnum bs 47 1 (by omega), wnum bs 48 1 (by omega), wnum bs 49 1 (by omega), wnum bs 52 1 (by omega), wnum bs 63 1 (by omega), ← Hcp.out] at hN8
      have q := range21 hN8
      go_wp2_with (refine wpList_load_mid rfl 28 _ rfl _ 0 rfl _ _ q Try.underlying28 rfl hicp ?_)
      refine (HC.out _).mono ?_
      rintro e w9 ⟨rfl, hB9⟩
      have hN9 := hN8.below' hB9
      have hZ9 := hZ8.below' hB9
      have hW9 := below_step hW8 hB9 hW8.size
      clear q hB9 hN8 hZ8 hW8
      have q := range21 hN9
      by_cases hr0 : r = 0
      · subst hr0
        have hth := there_blk (n := cp.toArray.size) hZ9 (by simp [hcl])
        have HP := hide (⟨blk_setCells cp [] [.int .i64 0, .int .i64 0, .int .i64 0, .int .i64 0, .int .u64 0, .int .i64 0, .int .i64 0, .int .i64 0, .int .i64 0, .int .i64 0, .int .u64 0, .int .i64 0, .int .i64 0, .int .i64 0, .int .i64 0, .int .i64 0, .int .i64 0, .int .i64 0, .int .u64 0, .int .i64 0, .int .i64 0] _ hZ9 (by simp [hcl]), below_setCells (Nat.le_refl w.heap.size) cp 0 _ hW9⟩ : _ ∧ _)
        go_wp2_with (first
          | (refine wpList_load_mid rfl 28 _ rfl _ 0 rfl _ _ q Try.underlying28 rfl hicp ?_)
          | (refine wpList_store_mid rfl 28 _ _ rfl w.heap.size 0 cp.toArray rfl rfl hth hicp' one0 ?_; refine wpList_gen (fun W => Blk W w.heap.size 28 cp ∧ Below w.heap.size w W) HP.out ?_; rintro Wf ⟨hZf, hWf⟩))
        exact bodyPost_ret (results21 rfl rfl rfl hZf hcl) rfl ⟨by first | rfl | (rw [if_pos rfl]; rfl), hWf⟩
      · have hr0' : (r != 0) = true := by simpa using hr0
        have hth := there21 hZ9 rfl
        have HP := hide (⟨blk_setCells [.int .i64 0, .int .i64 0, .int .i64 0, .int .i64 0, .int .u64 0, .int .i64 0, .int .i64 0, .int .i64 0, .int .i64 0, .int .i64 0, .int .u64 0, .int .i64 0, .int .i64 0, .int .i64 0, .int .i64 0, .int .i64 0, .int .i64 0, .int .i64 0, .int .u64 0, .int .i64 0, .int .i64 0] [] [.int .i64 0, .int .i64 0, .int .i64 0, .int .i64 0, .int .u64 0, .int .i64 0, .int .i64 0, .int .i64 0, .int .i64 0, .int .i64 0, .int .u64 0, .int .i64 0, .int .i64 0, .int .i64 0, .int .i64 0, .int .i64 0, .int .i64 0, .int .i64 0, .int .u64 0, .int .i64 0, .int .i64 0] _ hZ9 rfl, below_setCells (Nat.le_refl w.heap.size) [.int .i64 0, .int .i64 0, .int .i64 0, .int .i64 0, .int .u64 0, .int .i64 0, .int .i64 0, .int .i64 0, .int .i64 0, .int .i64 0, .int .u64 0, .int .i64 0, .int .i64 0, .int .i64 0, .int .i64 0, .int .i64 0, .int .i64 0, .int .i64 0, .int .u64 0, .int .i64 0, .int .i64 0] 0 _ hW9⟩ : _ ∧ _)
        go_wp2_with (refine wpList_store_mid rfl 28 _ _ rfl _ 0 _ rfl rfl hth info21 one_zero ?_; refine wpList_gen (fun W => Blk W w.heap.size 28 [.int .i64 0, .int .i64 0, .int .i64 0, .int .i64 0, .int .u64 0, .int .i64 0, .int .i64 0, .int .i64 0, .int .i64 0, .int .i64 0, .int .u64 0, .int .i64 0, .int .i64 0, .int .i64 0, .int .i64 0, .int .i64 0, .int .i64 0, .int .i64 0, .int .u64 0, .int .i64 0, .int .i64 0] ∧ Below w.heap.size w W) HP.out ?_; rintro Wf ⟨hZf, hWf⟩)
        exact bodyPost_ret (results21 rfl rfl rfl hZf rfl) rfl ⟨by first | (rw [if_neg hr0]; rfl) | rfl, hWf⟩
    · have hkb : (K == 11) = false := by simpa using h11
      rw [← hk h11] at hN6
      clear hk hk11
      go_upto_region 22 with ((go_at_call 24; refine (refReq_any _ _).mono ?_; rintro e w2 ⟨rfl, rfl⟩; rw [hq]))
      have q := range21 hN6
      go_wp2_with (refine wpList_load_mid rfl 28 _ rfl _ 0 rfl _ _ q Try.underlying28 rfl hicp ?_)
      refine (HC.out _).mono ?_
      rintro e w9 ⟨rfl, hB9⟩
      have hN9 := hN6.below' hB9
      have hZ9 := hZ6.below' hB9
      have hW9 := below_step hW6 hB9 hW6.size
      clear q hB9 hN6 hZ6 hW6
      have q := range21 hN9
      by_cases hr0 : r = 0
      · subst hr0
        have hth := there_blk (n := cp.toArray.size) hZ9 (by simp [hcl])
        have HP := hide (⟨blk_setCells cp [] [.int .i64 0, .int .i64 0, .int .i64 0, .int .i64 0, .int .u64 0, .int .i64 0, .int .i64 0, .int .i64 0, .int .i64 0, .int .i64 0, .int .u64 0, .int .i64 0, .int .i64 0, .int .i64 0, .int .i64 0, .int .i64 0, .int .i64 0, .int .i64 0, .int .u64 0, .int .i64 0, .int .i64 0] _ hZ9 (by simp [hcl]), below_setCells (Nat.le_refl w.heap.size) cp 0 _ hW9⟩ : _ ∧ _)
        go_wp2_with (first
          | (refine wpList_load_mid rfl 28 _ rfl _ 0 rfl _ _ q Try.underlying28 rfl hicp ?_)
          | (refine wpList_store_mid rfl 28 _ _ rfl w.heap.size 0 cp.toArray rfl rfl hth hicp' one0 ?_; refine wpList_gen (fun W => Blk W w.heap.size 28 cp ∧ Below w.heap.size w W) HP.out ?_; rintro Wf ⟨hZf, hWf⟩))
        exact bodyPost_ret (results21 rfl rfl rfl hZf hcl) rfl ⟨by first | rfl | (rw [if_pos rfl]; rfl), hWf⟩
      · have hr0' : (r != 0) = true := by simpa using hr0
        have hth := there21 hZ9 rfl
        have HP := hide (⟨blk_setCells [.int .i64 0, .int .i64 0, .int .i64 0, .int .i64 0, .int .u64 0, .int .i64 0, .int .i64 0, .int .i64 0, .int .i64 0, .int .i64 0, .int .u64 0, .int .i64 0, .int .i64 0, .int .i64 0, .int .i64 0, .int .i64 0, .int .i64 0, .int .i64 0, .int .u64 0, .int .i64 0, .int .i64 0] [] [.int .i64 0, .int .i64 0, .int .i64 0, .int .i64 0, .int .u64 0, .int .i64 0, .int .i64 0, .int .i64 0, .int .i64 0, .int .i64 0, .int .u64 0, .int .i64 0, .int .i64 0, .int .i64 0, .int .i64 0, .int .i64 0, .int .i64 0, .int .i64 0, .int .u64 0, .int .i64 0, .int .i64 0] _ hZ9 rfl, below_setCells (Nat.le_refl w.heap.size) [.int .i64 0, .int .i64 0, .int .i64 0, .int .i64 0, .int .u64 0, .int .i64 0, .int .i64 0, .int .i64 0, .int .i64 0, .int .i64 0, .int .u64 0, .int .i64 0, .int .i64 0, .int .i64 0, .int .i64 0, .int .i64 0, .int .i64 0, .int .i64 0, .int .u64 0, .int .i64 0, .int .i64 0] 0 _ hW9⟩ : _ ∧ _)
        go_wp2_with (refine wpList_store_mid rfl 28 _ _ rfl _ 0 _ rfl rfl hth info21 one_zero ?_; refine wpList_gen (fun W => Blk W w.heap.size 28 [.int .i64 0, .int .i64 0, .int .i64 0, .int .i64 0, .int .u64 0, .int .i64 0, .int .i64 0, .int .i64 0, .int .i64 0, .int .i64 0, .int .u64 0, .int .i64 0, .int .i64 0, .int .i64 0, .int .i64 0, .int .i64 0, .int .i64 0, .int .i64 0, .int .u64 0, .int .i64 0, .int .i64 0] ∧ Below w.heap.size w W) HP.out ?_; rintro Wf ⟨hZf, hWf⟩)
        exact bodyPost_ret (results21 rfl rfl rfl hZf rfl) rfl ⟨by first | (rw [if_neg hr0]; rfl) | rfl, hWf⟩
  · have h11 : K ≠ 11 := by
      intro e
      rw [e] at hq
      exact absurd hq (by decide)
    have hkb : (K == 11) = false := by simpa using h11
    have h54 : 54 ≤ m := by
      rcases Hkinds.out with ⟨_, e, _⟩ | ⟨e, _⟩ | ⟨e, _⟩ | ⟨e, _⟩
      · have := Hsz.out
        omega
      all_goals rw [hq] at e; cases e
    have hk := Hreq.out hq h11
    clear Hreq Hno Hann
    have Hk := hide hk
    clear hk
    have c10 := hN6.cell 10
    have f10 := hN6.frozen 10
    simp only [List.getElem?_cons_zero, List.getElem?_cons_succ] at c10
    have c11 := hN6.cell 11
    have f11 := hN6.frozen 11
    simp only [List.getElem?_cons_zero, List.getElem?_cons_succ] at c11
    go_upto_region 18 with ((go_at_call 24; refine (refReq_any _ _).mono ?_; rintro e w2 ⟨rfl, rfl⟩; rw [hq]))
    go_wp2_with fail
    refine (refId_any _ m c bs 44 W6 hr6 (by omega)).mono ?_
    rintro e w7 ⟨rfl, rfl⟩
    have hN7 := hN6.set_ 10 (.int .u64 (num bs 44 8 : Nat))
    have hZ7 := hZ6.far (p := ⟨w4.heap.size, 10, none⟩) hne (.int .u64 (num bs 44 8 : Nat))
    have hW7 := hW6.setCell (p := ⟨w4.heap.size, 10, none⟩) hg (.int .u64 (num bs 44 8 : Nat))
    have hr7 := h.below hW7
    go_wp2_with fail
    refine (refGet_any b o m c bs 52 2 _ hr7 (by omega) (by omega) (by omega)).mono ?_
    rintro e w7 ⟨rfl, rfl⟩
    have hN8 := hN7.set_ 11 (.int .i64 (num bs 52 2 : Nat))
    have hZ8 := hZ7.far (p := ⟨w4.heap.size, 11, none⟩) hne (.int .i64 (num bs 52 2 : Nat))
    have hW8 := hW7.setCell (p := ⟨w4.heap.size, 11, none⟩) hg (.int .i64 (num bs 52 2 : Nat))
    simp only [List.set_cons_zero, List.set_cons_succ] at hN8
    rw [← Hk.out] at hN8
    clear Hk
    go_upto_region 22 with (fail)
    obtain ⟨W8, hWW⟩ : ∃ W, W = (W6.setCell ⟨w4.heap.size, 10, none⟩ (.int .u64 (num bs 44 8 : Nat))).setCell ⟨w4.heap.size, 11, none⟩ (.int .i64 (num bs 52 2 : Nat)) := ⟨_, rfl⟩
    rw [← hWW] at hN8 hZ8 hW8 ⊢
    clear hWW
    clear c10 f10 c11 f11 hN6 hZ6 hW6 hN7 hZ7 hW7 hr6 hr7
    have q := range21 hN8
    go_wp2_with (refine wpList_load_mid rfl 28 _ rfl _ 0 rfl _ _ q Try.underlying28 rfl hicp ?_)
    refine (HC.out _).mono ?_
    rintro e w9 ⟨rfl, hB9⟩
    have hN9 := hN8.below' hB9
    have hZ9 := hZ8.below' hB9
    have hW9 := below_step hW8 hB9 hW8.size
    clear q hB9 hN8 hZ8 hW8
    have q := range21 hN9
    by_cases hr0 : r = 0
    · subst hr0
      have hth := there_blk (n := cp.toArray.size) hZ9 (by simp [hcl])
      have HP := hide (⟨blk_setCells cp [] [.int .i64 0, .int .i64 0, .int .i64 0, .int .i64 0, .int .u64 0, .int .i64 0, .int .i64 0, .int .i64 0, .int .i64 0, .int .i64 0, .int .u64 0, .int .i64 0, .int .i64 0, .int .i64 0, .int .i64 0, .int .i64 0, .int .i64 0, .int .i64 0, .int .u64 0, .int .i64 0, .int .i64 0] _ hZ9 (by simp [hcl]), below_setCells (Nat.le_refl w.heap.size) cp 0 _ hW9⟩ : _ ∧ _)
      go_wp2_with (first
        | (refine wpList_load_mid rfl 28 _ rfl _ 0 rfl _ _ q Try.underlying28 rfl hicp ?_)
        | (refine wpList_store_mid rfl 28 _ _ rfl w.heap.size 0 cp.toArray rfl rfl hth hicp' one0 ?_; refine wpList_gen (fun W => Blk W w.heap.size 28 cp ∧ Below w.heap.size w W) HP.out ?_; rintro Wf ⟨hZf, hWf⟩))
      exact bodyPost_ret (results21 rfl rfl rfl hZf hcl) rfl ⟨by first | rfl | (rw [if_pos rfl]; rfl), hWf⟩
    · have hr0' : (r != 0) = true := by simpa using hr0
      have hth := there21 hZ9 rfl
      have HP := hide (⟨blk_setCells [.int .i64 0, .int .i64 0, .int .i64 0, .int .i64 0, .int .u64 0, .int .i64 0, .int .i64 0, .int .i64 0, .int .i64 0, .int .i64 0, .int .u64 0, .int .i64 0, .int .i64 0, .int .i64 0, .int .i64 0, .int .i64 0, .int .i64 0, .int .i64 0, .int .u64 0, .int .i64 0, .int .i64 0] [] [.int .i64 0, .int .i64 0, .int .i64 0, .int .i64 0, .int .u64 0, .int .i64 0, .int .i64 0, .int .i64 0, .int .i64 0, .int .i64 0, .int .u64 0, .int .i64 0, .int .i64 0, .int .i64 0, .int .i64 0, .int .i64 0, .int .i64 0, .int .i64 0, .int .u64 0, .int .i64 0, .int .i64 0] _ hZ9 rfl, below_setCells (Nat.le_refl w.heap.size) [.int .i64 0, .int .i64 0, .int .i64 0, .int .i64 0, .int .u64 0, .int .i64 0, .int .i64 0, .int .i64 0, .int .i64 0, .int .i64 0, .int .u64 0, .int .i64 0, .int .i64 0, .int .i64 0, .int .i64 0, .int .i64 0, .int .i64 0, .int .i64 0, .int .u64 0, .int .i64 0, .int .i64 0] 0 _ hW9⟩ : _ ∧ _)
      go_wp2_with (refine wpList_store_mid rfl 28 _ _ rfl _ 0 _ rfl rfl hth info21 one_zero ?_; refine wpList_gen (fun W => Blk W w.heap.size 28 [.int .i64 0, .int .i64 0, .int .i64 0, .int .i64 0, .int .u64 0, .int .i64 0, .int .i64 0, .int .i64 0, .int .i64 0, .int .i64 0, .int .u64 0, .int .i64 0, .int .i64 0, .int .i64 0, .int .i64 0, .int .i64 0, .int .i64 0, .int .i64 0, .int .u64 0, .int .i64 0, .int .i64 0] ∧ Below w.heap.size w W) HP.out ?_; rintro Wf ⟨hZf, hWf⟩)
      exact bodyPost_ret (results21 rfl rfl rfl hZf rfl) rfl ⟨by first | (rw [if_neg hr0]; rfl) | rfl, hWf⟩
end Go.Proofs.Ytlobddhpkemklaa
