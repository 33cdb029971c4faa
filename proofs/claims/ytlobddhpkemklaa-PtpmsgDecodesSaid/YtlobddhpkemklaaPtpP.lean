/- The plain law of messages: what was written is read.
  SEATS: ptp -/
import Derived.Test.YtlobddhpkemklaaPtpD
namespace Go.Proofs.Ytlobddhpkemklaa
open Go.RowKit
set_option linter.unusedVariables false

theorem pt_be_snoc (n b : Nat) (hb : b < 256) : ∀ k, be (n * 256 + b) (k + 1) = be n k ++ [UInt8.ofNat b]
  | 0 => by
    have : UInt8.ofNat (n * 256 + b) = UInt8.ofNat b := by
      apply UInt8.toNat.inj
      simp
    simp [be, this]
  | k + 1 => by
    have h1 : (n * 256 + b) / 256 ^ (k + 1) = n / 256 ^ k := by
      rw [Nat.pow_succ, Nat.mul_comm (256 ^ k) 256, ← Nat.div_div_eq_div_mul, show (n * 256 + b) / 256 = n by omega]
    rw [be, h1, pt_be_snoc n b hb k, be]
    rfl
theorem pt_ofBe_be : ∀ (k n : Nat), n < 256 ^ k → ofBe (be n k) = n
  | 0, n, h => by
    simp at h
    subst h
    rfl
  | k + 1, n, h => by
    have h1 : n / 256 < 256 ^ k := by
      rw [Nat.pow_succ] at h
      omega
    rw [show n = n / 256 * 256 + n % 256 by omega, pt_be_snoc _ _ (Nat.mod_lt _ (by omega)) k, ofBe_snoc, pt_ofBe_be k _ h1]
    have : (UInt8.ofNat (n % 256)).toNat = n % 256 := by simp
    omega

def lows (l : List (Int × Nat)) : List UInt8 := l.flatMap fun x => low x.1 x.2
def lens (l : List (Int × Nat)) : Nat := (l.map (·.2)).sum
theorem lows_length (l : List (Int × Nat)) : (lows l).length = lens l := by
  unfold lows lens
  rw [List.length_flatMap]
  congr 1
  exact List.map_congr_left fun x _ => low_length x.1 x.2

theorem low_num (n : Int) (s : Nat) : ofBe (low n s) = (n % 2 ^ (8 * s)).toNat := by
  unfold low
  refine pt_ofBe_be s _ ?_
  have h0 : (0 : Int) < 2 ^ (8 * s) := Int.pow_pos (by omega)
  have h1 := Int.emod_lt_of_pos n h0
  have h2 := Int.emod_nonneg n (show (2 : Int) ^ (8 * s) ≠ 0 by omega)
  have e : (256 : Nat) ^ s = 2 ^ (8 * s) := by rw [Nat.pow_mul]
  rw [e]
  have e2 : (((2 ^ (8 * s) : Nat)) : Int) = (2 : Int) ^ (8 * s) := by simp
  omega

theorem num_lows (l1 l2 : List (Int × Nat)) (n : Int) (s P : Nat) (hP : lens l1 = P) : num (lows (l1 ++ (n, s) :: l2)) P s = (n % 2 ^ (8 * s)).toNat := by
  unfold num sub
  subst hP
  have e : lows (l1 ++ (n, s) :: l2) = lows l1 ++ (low n s ++ lows l2) := by simp [lows]
  rw [e, ← lows_length l1, List.drop_left, List.take_left' (low_length n s), low_num]

theorem num_at (l l1 l2 : List (Int × Nat)) (n : Int) (s P : Nat) (hl : l = l1 ++ (n, s) :: l2) (hP : lens l1 = P) : num (lows l) P s = (n % 2 ^ (8 * s)).toNat := by
  rw [hl]
  exact num_lows l1 l2 n s P hP

def ptpList (p : Ptp) (tl : List (Int × Nat)) : List (Int × Nat) := [(p.kind, 1), (2, 1), (sizeOfKind p.kind, 2), (p.dom, 1), (0, 1), (p.flags, 2), (p.corr, 8), (0, 4), (wrap64 p.clock, 8), (p.port, 2), (p.seq, 2), (controlOf p.kind, 1), (p.logi, 1), (p.sec, 6), (p.nano, 4)] ++ tl
def ptpRest (p : Ptp) : List (Int × Nat) := if isReq p.kind = true then [(wrap64 p.rclock, 8), (p.rport, 2)] else if p.kind = 2 then [(0, 8), (0, 2)] else if p.kind = 11 then [(p.utc, 2), (0, 1), (p.p1, 1), (p.cls, 1), (p.acc, 1), (p.var, 2), (p.p2, 1), (wrap64 p.gm, 8), (p.steps, 2), (p.src, 1)] else []

theorem stamp_low {sec nano : Int} (h : stampOk sec nano = true) : stampBytes sec nano = low sec 6 ++ low nano 4 := by
  obtain ⟨⟨h0, h1⟩, h2, h3⟩ := stamp_ok h
  unfold stampBytes
  rw [low_fit sec 6 h0 (by simp only [Nat.reduceMul, Int.reducePow]; omega), low_fit nano 4 h2 (by simp only [Nat.reduceMul, Int.reducePow]; omega)]

theorem ptpBytes_lows (p : Ptp) (h : stampOk p.sec p.nano = true) : ptpBytes p = lows (ptpList p (ptpRest p)) := by
  unfold ptpBytes ptpHead ptpTail ptpRest annBytes
  rw [stamp_low h]
  split
  · simp [ptpList, lows]
  · split
    · simp [ptpList, lows]
    · split
      · simp [ptpList, lows]
      · simp [ptpList, lows]

structure Valid (p : Ptp) : Prop where
  size : sizeOfKind p.kind ≠ 0
  dom : 0 ≤ p.dom ∧ p.dom ≤ 255
  flags : 0 ≤ p.flags ∧ p.flags ≤ 65535
  port : 0 ≤ p.port ∧ p.port ≤ 65535
  seq : 0 ≤ p.seq ∧ p.seq ≤ 65535
  logi : -128 ≤ p.logi ∧ p.logi ≤ 127
  stamp : stampOk p.sec p.nano = true
  rport : 0 ≤ p.rport ∧ p.rport ≤ 65535
  utc : -32768 ≤ p.utc ∧ p.utc ≤ 32767
  p1 : 0 ≤ p.p1 ∧ p.p1 ≤ 255
  cls : 0 ≤ p.cls ∧ p.cls ≤ 255
  acc : 0 ≤ p.acc ∧ p.acc ≤ 255
  var : 0 ≤ p.var ∧ p.var ≤ 65535
  p2 : 0 ≤ p.p2 ∧ p.p2 ≤ 255
  steps : 0 ≤ p.steps ∧ p.steps ≤ 65535
  src : 0 ≤ p.src ∧ p.src ≤ 255
  noreq : isReq p.kind = false → p.rclock = 0 ∧ p.rport = 0
  noann : p.kind ≠ 11 → annZero p = true

theorem valid_of {p : Ptp} (h : ptpCheck p = 0) : Valid p := by
  obtain ⟨h0, h1⟩ := ptp_ok h
  have hr := h1
  unfold inRangeB at h1
  simp only [Bool.and_eq_true, inB_iff] at h1
  obtain ⟨e0, e1, e2, e3, e4, e5, e6, e7, e8, e9, e10, e11, e12, e13, e14⟩ := h1
  unfold ptpCheck at h
  rw [if_neg h0, if_neg (by rw [hr]; simp)] at h
  refine ⟨h0, e0, e1, e2, e3, e4, e5, e6, e7, e8, e9, e10, e11, e12, e13, e14, fun hq => ?_, fun h11 => ?_⟩
  · by_cases c : p.rclock ≠ 0 ∨ p.rport ≠ 0
    · rw [if_pos ⟨hq, c⟩] at h
      omega
    · omega
  · cases hz : annZero p
    · split at h
      · omega
      · rw [if_pos ⟨h11, hz⟩] at h
        omega
    · rfl

theorem kind_range {k : Int} (h : sizeOfKind k ≠ 0) : 0 ≤ k ∧ k ≤ 11 := by
  unfold sizeOfKind at h
  split at h
  · omega
  · split at h
    · omega
    · split at h <;> omega

theorem wrap_mod (n : Int) (h : 0 ≤ n ∧ n ≤ 18446744073709551615) : wrap64 n % 18446744073709551616 = n := by
  unfold wrap64
  omega
theorem sgn8 (n : Int) (h : -9223372036854775808 ≤ n ∧ n ≤ 9223372036854775807) : sgn (n % 18446744073709551616).toNat 8 = n := by
  unfold sgn
  simp only [Nat.reduceMul, Nat.reduceSub, Nat.reducePow, Int.reducePow]
  split <;> omega
theorem sgn1 (n : Int) (h : -128 ≤ n ∧ n ≤ 127) : sgn (n % 256).toNat 1 = n := by
  unfold sgn
  simp only [Nat.reduceMul, Nat.reduceSub, Nat.reducePow, Int.reducePow]
  split <;> omega
theorem sgn2 (n : Int) (h : -32768 ≤ n ∧ n ≤ 32767) : sgn (n % 65536).toNat 2 = n := by
  unfold sgn
  simp only [Nat.reduceMul, Nat.reduceSub, Nat.reducePow, Int.reducePow]
  split <;> omega

theorem hn0 (p : Ptp) (tl : List (Int × Nat)) : num (lows (ptpList p tl)) 0 1 = (p.kind % 2 ^ (8 * 1)).toNat := num_at _ [] ([((2 : Int), 1), (sizeOfKind p.kind, 2), (p.dom, 1), ((0 : Int), 1), (p.flags, 2), (p.corr, 8), ((0 : Int), 4), (wrap64 p.clock, 8), (p.port, 2), (p.seq, 2), (controlOf p.kind, 1), (p.logi, 1), (p.sec, 6), (p.nano, 4)] ++ tl) p.kind 1 0 (by unfold ptpList; rfl) (by simp [lens])
theorem hn1 (p : Ptp) (tl : List (Int × Nat)) : num (lows (ptpList p tl)) 1 1 = ((2 : Int) % 2 ^ (8 * 1)).toNat := num_at _ [(p.kind, 1)] ([(sizeOfKind p.kind, 2), (p.dom, 1), ((0 : Int), 1), (p.flags, 2), (p.corr, 8), ((0 : Int), 4), (wrap64 p.clock, 8), (p.port, 2), (p.seq, 2), (controlOf p.kind, 1), (p.logi, 1), (p.sec, 6), (p.nano, 4)] ++ tl) (2 : Int) 1 1 (by unfold ptpList; rfl) (by simp [lens])
theorem hn2 (p : Ptp) (tl : List (Int × Nat)) : num (lows (ptpList p tl)) 2 2 = ((sizeOfKind p.kind) % 2 ^ (8 * 2)).toNat := num_at _ [(p.kind, 1), ((2 : Int), 1)] ([(p.dom, 1), ((0 : Int), 1), (p.flags, 2), (p.corr, 8), ((0 : Int), 4), (wrap64 p.clock, 8), (p.port, 2), (p.seq, 2), (controlOf p.kind, 1), (p.logi, 1), (p.sec, 6), (p.nano, 4)] ++ tl) (sizeOfKind p.kind) 2 2 (by unfold ptpList; rfl) (by simp [lens])
theorem hn3 (p : Ptp) (tl : List (Int × Nat)) : num (lows (ptpList p tl)) 4 1 = (p.dom % 2 ^ (8 * 1)).toNat := num_at _ [(p.kind, 1), ((2 : Int), 1), (sizeOfKind p.kind, 2)] ([((0 : Int), 1), (p.flags, 2), (p.corr, 8), ((0 : Int), 4), (wrap64 p.clock, 8), (p.port, 2), (p.seq, 2), (controlOf p.kind, 1), (p.logi, 1), (p.sec, 6), (p.nano, 4)] ++ tl) p.dom 1 4 (by unfold ptpList; rfl) (by simp [lens])
theorem hn4 (p : Ptp) (tl : List (Int × Nat)) : num (lows (ptpList p tl)) 5 1 = ((0 : Int) % 2 ^ (8 * 1)).toNat := num_at _ [(p.kind, 1), ((2 : Int), 1), (sizeOfKind p.kind, 2), (p.dom, 1)] ([(p.flags, 2), (p.corr, 8), ((0 : Int), 4), (wrap64 p.clock, 8), (p.port, 2), (p.seq, 2), (controlOf p.kind, 1), (p.logi, 1), (p.sec, 6), (p.nano, 4)] ++ tl) (0 : Int) 1 5 (by unfold ptpList; rfl) (by simp [lens])
theorem hn5 (p : Ptp) (tl : List (Int × Nat)) : num (lows (ptpList p tl)) 6 2 = (p.flags % 2 ^ (8 * 2)).toNat := num_at _ [(p.kind, 1), ((2 : Int), 1), (sizeOfKind p.kind, 2), (p.dom, 1), ((0 : Int), 1)] ([(p.corr, 8), ((0 : Int), 4), (wrap64 p.clock, 8), (p.port, 2), (p.seq, 2), (controlOf p.kind, 1), (p.logi, 1), (p.sec, 6), (p.nano, 4)] ++ tl) p.flags 2 6 (by unfold ptpList; rfl) (by simp [lens])
theorem hn6 (p : Ptp) (tl : List (Int × Nat)) : num (lows (ptpList p tl)) 8 8 = (p.corr % 2 ^ (8 * 8)).toNat := num_at _ [(p.kind, 1), ((2 : Int), 1), (sizeOfKind p.kind, 2), (p.dom, 1), ((0 : Int), 1), (p.flags, 2)] ([((0 : Int), 4), (wrap64 p.clock, 8), (p.port, 2), (p.seq, 2), (controlOf p.kind, 1), (p.logi, 1), (p.sec, 6), (p.nano, 4)] ++ tl) p.corr 8 8 (by unfold ptpList; rfl) (by simp [lens])
theorem hn7 (p : Ptp) (tl : List (Int × Nat)) : num (lows (ptpList p tl)) 16 4 = ((0 : Int) % 2 ^ (8 * 4)).toNat := num_at _ [(p.kind, 1), ((2 : Int), 1), (sizeOfKind p.kind, 2), (p.dom, 1), ((0 : Int), 1), (p.flags, 2), (p.corr, 8)] ([(wrap64 p.clock, 8), (p.port, 2), (p.seq, 2), (controlOf p.kind, 1), (p.logi, 1), (p.sec, 6), (p.nano, 4)] ++ tl) (0 : Int) 4 16 (by unfold ptpList; rfl) (by simp [lens])
theorem hn8 (p : Ptp) (tl : List (Int × Nat)) : num (lows (ptpList p tl)) 20 8 = ((wrap64 p.clock) % 2 ^ (8 * 8)).toNat := num_at _ [(p.kind, 1), ((2 : Int), 1), (sizeOfKind p.kind, 2), (p.dom, 1), ((0 : Int), 1), (p.flags, 2), (p.corr, 8), ((0 : Int), 4)] ([(p.port, 2), (p.seq, 2), (controlOf p.kind, 1), (p.logi, 1), (p.sec, 6), (p.nano, 4)] ++ tl) (wrap64 p.clock) 8 20 (by unfold ptpList; rfl) (by simp [lens])
theorem hn9 (p : Ptp) (tl : List (Int × Nat)) : num (lows (ptpList p tl)) 28 2 = (p.port % 2 ^ (8 * 2)).toNat := num_at _ [(p.kind, 1), ((2 : Int), 1), (sizeOfKind p.kind, 2), (p.dom, 1), ((0 : Int), 1), (p.flags, 2), (p.corr, 8), ((0 : Int), 4), (wrap64 p.clock, 8)] ([(p.seq, 2), (controlOf p.kind, 1), (p.logi, 1), (p.sec, 6), (p.nano, 4)] ++ tl) p.port 2 28 (by unfold ptpList; rfl) (by simp [lens])
theorem hn10 (p : Ptp) (tl : List (Int × Nat)) : num (lows (ptpList p tl)) 30 2 = (p.seq % 2 ^ (8 * 2)).toNat := num_at _ [(p.kind, 1), ((2 : Int), 1), (sizeOfKind p.kind, 2), (p.dom, 1), ((0 : Int), 1), (p.flags, 2), (p.corr, 8), ((0 : Int), 4), (wrap64 p.clock, 8), (p.port, 2)] ([(controlOf p.kind, 1), (p.logi, 1), (p.sec, 6), (p.nano, 4)] ++ tl) p.seq 2 30 (by unfold ptpList; rfl) (by simp [lens])
theorem hn11 (p : Ptp) (tl : List (Int × Nat)) : num (lows (ptpList p tl)) 32 1 = ((controlOf p.kind) % 2 ^ (8 * 1)).toNat := num_at _ [(p.kind, 1), ((2 : Int), 1), (sizeOfKind p.kind, 2), (p.dom, 1), ((0 : Int), 1), (p.flags, 2), (p.corr, 8), ((0 : Int), 4), (wrap64 p.clock, 8), (p.port, 2), (p.seq, 2)] ([(p.logi, 1), (p.sec, 6), (p.nano, 4)] ++ tl) (controlOf p.kind) 1 32 (by unfold ptpList; rfl) (by simp [lens])
theorem hn12 (p : Ptp) (tl : List (Int × Nat)) : num (lows (ptpList p tl)) 33 1 = (p.logi % 2 ^ (8 * 1)).toNat := num_at _ [(p.kind, 1), ((2 : Int), 1), (sizeOfKind p.kind, 2), (p.dom, 1), ((0 : Int), 1), (p.flags, 2), (p.corr, 8), ((0 : Int), 4), (wrap64 p.clock, 8), (p.port, 2), (p.seq, 2), (controlOf p.kind, 1)] ([(p.sec, 6), (p.nano, 4)] ++ tl) p.logi 1 33 (by unfold ptpList; rfl) (by simp [lens])
theorem hn13 (p : Ptp) (tl : List (Int × Nat)) : num (lows (ptpList p tl)) 34 6 = (p.sec % 2 ^ (8 * 6)).toNat := num_at _ [(p.kind, 1), ((2 : Int), 1), (sizeOfKind p.kind, 2), (p.dom, 1), ((0 : Int), 1), (p.flags, 2), (p.corr, 8), ((0 : Int), 4), (wrap64 p.clock, 8), (p.port, 2), (p.seq, 2), (controlOf p.kind, 1), (p.logi, 1)] ([(p.nano, 4)] ++ tl) p.sec 6 34 (by unfold ptpList; rfl) (by simp [lens])
theorem hn14 (p : Ptp) (tl : List (Int × Nat)) : num (lows (ptpList p tl)) 40 4 = (p.nano % 2 ^ (8 * 4)).toNat := num_at _ [(p.kind, 1), ((2 : Int), 1), (sizeOfKind p.kind, 2), (p.dom, 1), ((0 : Int), 1), (p.flags, 2), (p.corr, 8), ((0 : Int), 4), (wrap64 p.clock, 8), (p.port, 2), (p.seq, 2), (controlOf p.kind, 1), (p.logi, 1), (p.sec, 6)] ([] ++ tl) p.nano 4 40 (by unfold ptpList; rfl) (by simp [lens])
theorem rq0 (p : Ptp) : num (lows (ptpList p [(wrap64 p.rclock, 8), (p.rport, 2)])) 44 8 = ((wrap64 p.rclock) % 2 ^ (8 * 8)).toNat := num_at _ [(p.kind, 1), ((2 : Int), 1), (sizeOfKind p.kind, 2), (p.dom, 1), ((0 : Int), 1), (p.flags, 2), (p.corr, 8), ((0 : Int), 4), (wrap64 p.clock, 8), (p.port, 2), (p.seq, 2), (controlOf p.kind, 1), (p.logi, 1), (p.sec, 6), (p.nano, 4)] [(p.rport, 2)] (wrap64 p.rclock) 8 44 (by unfold ptpList; rfl) (by simp [lens])
theorem rq1 (p : Ptp) : num (lows (ptpList p [(wrap64 p.rclock, 8), (p.rport, 2)])) 52 2 = (p.rport % 2 ^ (8 * 2)).toNat := num_at _ [(p.kind, 1), ((2 : Int), 1), (sizeOfKind p.kind, 2), (p.dom, 1), ((0 : Int), 1), (p.flags, 2), (p.corr, 8), ((0 : Int), 4), (wrap64 p.clock, 8), (p.port, 2), (p.seq, 2), (controlOf p.kind, 1), (p.logi, 1), (p.sec, 6), (p.nano, 4), (wrap64 p.rclock, 8)] [] p.rport 2 52 (by unfold ptpList; rfl) (by simp [lens])
theorem an0 (p : Ptp) : num (lows (ptpList p [(p.utc, 2), ((0 : Int), 1), (p.p1, 1), (p.cls, 1), (p.acc, 1), (p.var, 2), (p.p2, 1), (wrap64 p.gm, 8), (p.steps, 2), (p.src, 1)])) 44 2 = (p.utc % 2 ^ (8 * 2)).toNat := num_at _ [(p.kind, 1), ((2 : Int), 1), (sizeOfKind p.kind, 2), (p.dom, 1), ((0 : Int), 1), (p.flags, 2), (p.corr, 8), ((0 : Int), 4), (wrap64 p.clock, 8), (p.port, 2), (p.seq, 2), (controlOf p.kind, 1), (p.logi, 1), (p.sec, 6), (p.nano, 4)] [((0 : Int), 1), (p.p1, 1), (p.cls, 1), (p.acc, 1), (p.var, 2), (p.p2, 1), (wrap64 p.gm, 8), (p.steps, 2), (p.src, 1)] p.utc 2 44 (by unfold ptpList; rfl) (by simp [lens])
theorem an1 (p : Ptp) : num (lows (ptpList p [(p.utc, 2), ((0 : Int), 1), (p.p1, 1), (p.cls, 1), (p.acc, 1), (p.var, 2), (p.p2, 1), (wrap64 p.gm, 8), (p.steps, 2), (p.src, 1)])) 46 1 = ((0 : Int) % 2 ^ (8 * 1)).toNat := num_at _ [(p.kind, 1), ((2 : Int), 1), (sizeOfKind p.kind, 2), (p.dom, 1), ((0 : Int), 1), (p.flags, 2), (p.corr, 8), ((0 : Int), 4), (wrap64 p.clock, 8), (p.port, 2), (p.seq, 2), (controlOf p.kind, 1), (p.logi, 1), (p.sec, 6), (p.nano, 4), (p.utc, 2)] [(p.p1, 1), (p.cls, 1), (p.acc, 1), (p.var, 2), (p.p2, 1), (wrap64 p.gm, 8), (p.steps, 2), (p.src, 1)] (0 : Int) 1 46 (by unfold ptpList; rfl) (by simp [lens])
theorem an2 (p : Ptp) : num (lows (ptpList p [(p.utc, 2), ((0 : Int), 1), (p.p1, 1), (p.cls, 1), (p.acc, 1), (p.var, 2), (p.p2, 1), (wrap64 p.gm, 8), (p.steps, 2), (p.src, 1)])) 47 1 = (p.p1 % 2 ^ (8 * 1)).toNat := num_at _ [(p.kind, 1), ((2 : Int), 1), (sizeOfKind p.kind, 2), (p.dom, 1), ((0 : Int), 1), (p.flags, 2), (p.corr, 8), ((0 : Int), 4), (wrap64 p.clock, 8), (p.port, 2), (p.seq, 2), (controlOf p.kind, 1), (p.logi, 1), (p.sec, 6), (p.nano, 4), (p.utc, 2), ((0 : Int), 1)] [(p.cls, 1), (p.acc, 1), (p.var, 2), (p.p2, 1), (wrap64 p.gm, 8), (p.steps, 2), (p.src, 1)] p.p1 1 47 (by unfold ptpList; rfl) (by simp [lens])
theorem an3 (p : Ptp) : num (lows (ptpList p [(p.utc, 2), ((0 : Int), 1), (p.p1, 1), (p.cls, 1), (p.acc, 1), (p.var, 2), (p.p2, 1), (wrap64 p.gm, 8), (p.steps, 2), (p.src, 1)])) 48 1 = (p.cls % 2 ^ (8 * 1)).toNat := num_at _ [(p.kind, 1), ((2 : Int), 1), (sizeOfKind p.kind, 2), (p.dom, 1), ((0 : Int), 1), (p.flags, 2), (p.corr, 8), ((0 : Int), 4), (wrap64 p.clock, 8), (p.port, 2), (p.seq, 2), (controlOf p.kind, 1), (p.logi, 1), (p.sec, 6), (p.nano, 4), (p.utc, 2), ((0 : Int), 1), (p.p1, 1)] [(p.acc, 1), (p.var, 2), (p.p2, 1), (wrap64 p.gm, 8), (p.steps, 2), (p.src, 1)] p.cls 1 48 (by unfold ptpList; rfl) (by simp [lens])
theorem an4 (p : Ptp) : num (lows (ptpList p [(p.utc, 2), ((0 : Int), 1), (p.p1, 1), (p.cls, 1), (p.acc, 1), (p.var, 2), (p.p2, 1), (wrap64 p.gm, 8), (p.steps, 2), (p.src, 1)])) 49 1 = (p.acc % 2 ^ (8 * 1)).toNat := num_at _ [(p.kind, 1), ((2 : Int), 1), (sizeOfKind p.kind, 2), (p.dom, 1), ((0 : Int), 1), (p.flags, 2), (p.corr, 8), ((0 : Int), 4), (wrap64 p.clock, 8), (p.port, 2), (p.seq, 2), (controlOf p.kind, 1), (p.logi, 1), (p.sec, 6), (p.nano, 4), (p.utc, 2), ((0 : Int), 1), (p.p1, 1), (p.cls, 1)] [(p.var, 2), (p.p2, 1), (wrap64 p.gm, 8), (p.steps, 2), (p.src, 1)] p.acc 1 49 (by unfold ptpList; rfl) (by simp [lens])
theorem an5 (p : Ptp) : num (lows (ptpList p [(p.utc, 2), ((0 : Int), 1), (p.p1, 1), (p.cls, 1), (p.acc, 1), (p.var, 2), (p.p2, 1), (wrap64 p.gm, 8), (p.steps, 2), (p.src, 1)])) 50 2 = (p.var % 2 ^ (8 * 2)).toNat := num_at _ [(p.kind, 1), ((2 : Int), 1), (sizeOfKind p.kind, 2), (p.dom, 1), ((0 : Int), 1), (p.flags, 2), (p.corr, 8), ((0 : Int), 4), (wrap64 p.clock, 8), (p.port, 2), (p.seq, 2), (controlOf p.kind, 1), (p.logi, 1), (p.sec, 6), (p.nano, 4), (p.utc, 2), ((0 : Int), 1), (p.p1, 1), (p.cls, 1), (p.acc, 1)] [(p.p2, 1), (wrap64 p.gm, 8), (p.steps, 2), (p.src, 1)] p.var 2 50 (by unfold ptpList; rfl) (by simp [lens])
theorem an6 (p : Ptp) : num (lows (ptpList p [(p.utc, 2), ((0 : Int), 1), (p.p1, 1), (p.cls, 1), (p.acc, 1), (p.var, 2), (p.p2, 1), (wrap64 p.gm, 8), (p.steps, 2), (p.src, 1)])) 52 1 = (p.p2 % 2 ^ (8 * 1)).toNat := num_at _ [(p.kind, 1), ((2 : Int), 1), (sizeOfKind p.kind, 2), (p.dom, 1), ((0 : Int), 1), (p.flags, 2), (p.corr, 8), ((0 : Int), 4), (wrap64 p.clock, 8), (p.port, 2), (p.seq, 2), (controlOf p.kind, 1), (p.logi, 1), (p.sec, 6), (p.nano, 4), (p.utc, 2), ((0 : Int), 1), (p.p1, 1), (p.cls, 1), (p.acc, 1), (p.var, 2)] [(wrap64 p.gm, 8), (p.steps, 2), (p.src, 1)] p.p2 1 52 (by unfold ptpList; rfl) (by simp [lens])
theorem an7 (p : Ptp) : num (lows (ptpList p [(p.utc, 2), ((0 : Int), 1), (p.p1, 1), (p.cls, 1), (p.acc, 1), (p.var, 2), (p.p2, 1), (wrap64 p.gm, 8), (p.steps, 2), (p.src, 1)])) 53 8 = ((wrap64 p.gm) % 2 ^ (8 * 8)).toNat := num_at _ [(p.kind, 1), ((2 : Int), 1), (sizeOfKind p.kind, 2), (p.dom, 1), ((0 : Int), 1), (p.flags, 2), (p.corr, 8), ((0 : Int), 4), (wrap64 p.clock, 8), (p.port, 2), (p.seq, 2), (controlOf p.kind, 1), (p.logi, 1), (p.sec, 6), (p.nano, 4), (p.utc, 2), ((0 : Int), 1), (p.p1, 1), (p.cls, 1), (p.acc, 1), (p.var, 2), (p.p2, 1)] [(p.steps, 2), (p.src, 1)] (wrap64 p.gm) 8 53 (by unfold ptpList; rfl) (by simp [lens])
theorem an8 (p : Ptp) : num (lows (ptpList p [(p.utc, 2), ((0 : Int), 1), (p.p1, 1), (p.cls, 1), (p.acc, 1), (p.var, 2), (p.p2, 1), (wrap64 p.gm, 8), (p.steps, 2), (p.src, 1)])) 61 2 = (p.steps % 2 ^ (8 * 2)).toNat := num_at _ [(p.kind, 1), ((2 : Int), 1), (sizeOfKind p.kind, 2), (p.dom, 1), ((0 : Int), 1), (p.flags, 2), (p.corr, 8), ((0 : Int), 4), (wrap64 p.clock, 8), (p.port, 2), (p.seq, 2), (controlOf p.kind, 1), (p.logi, 1), (p.sec, 6), (p.nano, 4), (p.utc, 2), ((0 : Int), 1), (p.p1, 1), (p.cls, 1), (p.acc, 1), (p.var, 2), (p.p2, 1), (wrap64 p.gm, 8)] [(p.src, 1)] p.steps 2 61 (by unfold ptpList; rfl) (by simp [lens])
theorem an9 (p : Ptp) : num (lows (ptpList p [(p.utc, 2), ((0 : Int), 1), (p.p1, 1), (p.cls, 1), (p.acc, 1), (p.var, 2), (p.p2, 1), (wrap64 p.gm, 8), (p.steps, 2), (p.src, 1)])) 63 1 = (p.src % 2 ^ (8 * 1)).toNat := num_at _ [(p.kind, 1), ((2 : Int), 1), (sizeOfKind p.kind, 2), (p.dom, 1), ((0 : Int), 1), (p.flags, 2), (p.corr, 8), ((0 : Int), 4), (wrap64 p.clock, 8), (p.port, 2), (p.seq, 2), (controlOf p.kind, 1), (p.logi, 1), (p.sec, 6), (p.nano, 4), (p.utc, 2), ((0 : Int), 1), (p.p1, 1), (p.cls, 1), (p.acc, 1), (p.var, 2), (p.p2, 1), (wrap64 p.gm, 8), (p.steps, 2)] [] p.src 1 63 (by unfold ptpList; rfl) (by simp [lens])

theorem lens_list (p : Ptp) (tl : List (Int × Nat)) : lens (ptpList p tl) = 44 + lens tl := by
  simp [lens, ptpList]
  omega

theorem or00 : bits .or .i64 0 0 = 0 := by decide +kernel
theorem xor_ctl (k : Int) : bits .xor .i64 (controlOf k) (controlOf k) = 0 := by
  unfold controlOf
  split
  · decide +kernel
  · split
    · decide +kernel
    · split
      · decide +kernel
      · split <;> decide +kernel
theorem ctl_range (k : Int) : 0 ≤ controlOf k ∧ controlOf k ≤ 5 := by
  unfold controlOf
  split <;> (try split) <;> (try split) <;> (try split) <;> omega

/-- The numbers ahead of the kind's own part are read back. -/
theorem kind_back (p : Ptp) (tl : List (Int × Nat)) (v : Valid p) : kindOf (lows (ptpList p tl)) = p.kind := by
  have hk := kind_range v.size
  unfold kindOf
  rw [hn0]
  simp only [Nat.reduceMul, Int.reducePow]
  omega
theorem zero_back (p : Ptp) (tl : List (Int × Nat)) (v : Valid p) : zeroHead (lows (ptpList p tl)) = 0 := by
  have hc := ctl_range p.kind
  unfold zeroHead
  rw [kind_back p tl v, hn4, hn7, hn11]
  have e : (((controlOf p.kind % 2 ^ (8 * 1)).toNat : Nat) : Int) = controlOf p.kind := by
    simp only [Nat.reduceMul, Int.reducePow]
    omega
  rw [e]
  simp only [Int.zero_emod, Int.toNat_zero, Int.natCast_zero, or00, xor_ctl]

theorem of_gen (p : Ptp) (bs : List UInt8) (v : Valid p) (hk : kindOf bs = p.kind) (f1 : ((num bs 4 1 : Nat) : Int) = p.dom)
    (f2 : ((num bs 6 2 : Nat) : Int) = p.flags) (f3 : sgn (num bs 8 8) 8 = p.corr) (f4 : ((num bs 20 8 : Nat) : Int) = p.clock)
    (f5 : ((num bs 28 2 : Nat) : Int) = p.port) (f6 : ((num bs 30 2 : Nat) : Int) = p.seq) (f7 : sgn (num bs 33 1) 1 = p.logi)
    (f8 : ((num bs 34 6 : Nat) : Int) = p.sec) (f9 : ((num bs 40 4 : Nat) : Int) = p.nano)
    (hr : isReq p.kind = true → ((num bs 44 8 : Nat) : Int) = p.rclock ∧ ((num bs 52 2 : Nat) : Int) = p.rport)
    (ha : p.kind = 11 → sgn (num bs 44 2) 2 = p.utc ∧ ((num bs 47 1 : Nat) : Int) = p.p1 ∧ ((num bs 48 1 : Nat) : Int) = p.cls ∧ ((num bs 49 1 : Nat) : Int) = p.acc ∧ ((num bs 50 2 : Nat) : Int) = p.var ∧ ((num bs 52 1 : Nat) : Int) = p.p2 ∧ ((num bs 53 8 : Nat) : Int) = p.gm ∧ ((num bs 61 2 : Nat) : Int) = p.steps ∧ ((num bs 63 1 : Nat) : Int) = p.src) :
    ptpOf bs = p := by
  have g1 : (if isReq p.kind = true then ((num bs 44 8 : Nat) : Int) else 0) = p.rclock := by
    split
    · exact (hr (by assumption)).1
    · exact (v.noreq (by simp_all)).1.symm
  have g2 : (if isReq p.kind = true then ((num bs 52 2 : Nat) : Int) else 0) = p.rport := by
    split
    · exact (hr (by assumption)).2
    · exact (v.noreq (by simp_all)).2.symm
  have hz : p.kind ≠ 11 → p.utc = 0 ∧ p.p1 = 0 ∧ p.cls = 0 ∧ p.acc = 0 ∧ p.var = 0 ∧ p.p2 = 0 ∧ p.gm = 0 ∧ p.steps = 0 ∧ p.src = 0 := by
    intro h11
    have hz := v.noann h11
    unfold annZero at hz
    simp only [Bool.and_eq_true, beq_iff_eq] at hz
    omega
  have g : ∀ (q : Prop) [Decidable q] (a b : Int), (q → a = b) → (¬ q → b = 0) → (if q then a else 0) = b := by
    intro q _ a b h1 h2
    split
    · exact h1 (by assumption)
    · exact (h2 (by assumption)).symm
  have e0 := g (p.kind = 11) (sgn (num bs 44 2) 2) p.utc (fun h => (ha h).1) (fun h => (hz h).1)
  have e1 := g (p.kind = 11) ((num bs 47 1 : Nat) : Int) p.p1 (fun h => (ha h).2.1) (fun h => (hz h).2.1)
  have e2 := g (p.kind = 11) ((num bs 48 1 : Nat) : Int) p.cls (fun h => (ha h).2.2.1) (fun h => (hz h).2.2.1)
  have e3 := g (p.kind = 11) ((num bs 49 1 : Nat) : Int) p.acc (fun h => (ha h).2.2.2.1) (fun h => (hz h).2.2.2.1)
  have e4 := g (p.kind = 11) ((num bs 50 2 : Nat) : Int) p.var (fun h => (ha h).2.2.2.2.1) (fun h => (hz h).2.2.2.2.1)
  have e5 := g (p.kind = 11) ((num bs 52 1 : Nat) : Int) p.p2 (fun h => (ha h).2.2.2.2.2.1) (fun h => (hz h).2.2.2.2.2.1)
  have e6 := g (p.kind = 11) ((num bs 53 8 : Nat) : Int) p.gm (fun h => (ha h).2.2.2.2.2.2.1) (fun h => (hz h).2.2.2.2.2.2.1)
  have e7 := g (p.kind = 11) ((num bs 61 2 : Nat) : Int) p.steps (fun h => (ha h).2.2.2.2.2.2.2.1) (fun h => (hz h).2.2.2.2.2.2.2.1)
  have e8 := g (p.kind = 11) ((num bs 63 1 : Nat) : Int) p.src (fun h => (ha h).2.2.2.2.2.2.2.2) (fun h => (hz h).2.2.2.2.2.2.2.2)
  unfold ptpOf
  rw [hk]
  cases p
  simp only [Ptp.mk.injEq]
  exact ⟨trivial, f1, f2, f3, f4, f5, f6, f7, f8, f9, g1, g2, e0, e1, e2, e3, e4, e5, e6, e7, e8⟩

/-- A message's own part is read as it is. -/
theorem of_back (p : Ptp) (tl : List (Int × Nat)) (v : Valid p) (hin : p.In)
    (hr : isReq p.kind = true → num (lows (ptpList p tl)) 44 8 = p.rclock ∧ (num (lows (ptpList p tl)) 52 2 : Int) = p.rport)
    (ha : p.kind = 11 → sgn (num (lows (ptpList p tl)) 44 2) 2 = p.utc ∧ (num (lows (ptpList p tl)) 47 1 : Int) = p.p1 ∧ (num (lows (ptpList p tl)) 48 1 : Int) = p.cls ∧ (num (lows (ptpList p tl)) 49 1 : Int) = p.acc ∧ (num (lows (ptpList p tl)) 50 2 : Int) = p.var ∧ (num (lows (ptpList p tl)) 52 1 : Int) = p.p2 ∧ (num (lows (ptpList p tl)) 53 8 : Int) = p.gm ∧ (num (lows (ptpList p tl)) 61 2 : Int) = p.steps ∧ (num (lows (ptpList p tl)) 63 1 : Int) = p.src) :
    ptpOf (lows (ptpList p tl)) = p := by
  obtain ⟨⟨t0, t1⟩, t2, t3⟩ := stamp_ok v.stamp
  have v1 := v.dom
  have v2 := v.flags
  have v3 := v.port
  have v4 := v.seq
  have v5 := v.logi
  have i3 := hin.corr
  have i4 := hin.clock
  have f1 : ((num (lows (ptpList p tl)) 4 1 : Nat) : Int) = p.dom := by rw [hn3]; simp only [Nat.reduceMul, Int.reducePow]; omega
  have f2 : ((num (lows (ptpList p tl)) 6 2 : Nat) : Int) = p.flags := by rw [hn5]; simp only [Nat.reduceMul, Int.reducePow]; omega
  have f3 : sgn (num (lows (ptpList p tl)) 8 8) 8 = p.corr := by rw [hn6]; simp only [Nat.reduceMul, Int.reducePow]; exact sgn8 _ i3
  have f4 : ((num (lows (ptpList p tl)) 20 8 : Nat) : Int) = p.clock := by
    rw [hn8]
    simp only [Nat.reduceMul, Int.reducePow]
    rw [wrap_mod _ i4]
    omega
  have f5 : ((num (lows (ptpList p tl)) 28 2 : Nat) : Int) = p.port := by rw [hn9]; simp only [Nat.reduceMul, Int.reducePow]; omega
  have f6 : ((num (lows (ptpList p tl)) 30 2 : Nat) : Int) = p.seq := by rw [hn10]; simp only [Nat.reduceMul, Int.reducePow]; omega
  have f7 : sgn (num (lows (ptpList p tl)) 33 1) 1 = p.logi := by rw [hn12]; simp only [Nat.reduceMul, Int.reducePow]; exact sgn1 _ v5
  have f8 : ((num (lows (ptpList p tl)) 34 6 : Nat) : Int) = p.sec := by rw [hn13]; simp only [Nat.reduceMul, Int.reducePow]; omega
  have f9 : ((num (lows (ptpList p tl)) 40 4 : Nat) : Int) = p.nano := by rw [hn14]; simp only [Nat.reduceMul, Int.reducePow]; omega
  exact of_gen p _ v (kind_back p tl v) f1 f2 f3 f4 f5 f6 f7 f8 f9 hr ha

theorem ptp_of {p : Ptp} (h : ptpCheck p = 0) (hin : p.In) : ptpOf (ptpBytes p) = p := by
  have v := valid_of h
  rw [ptpBytes_lows p v.stamp]
  have v0 := v.rport
  have v1 := v.utc
  have v2 := v.p1
  have v3 := v.cls
  have v4 := v.acc
  have v5 := v.var
  have v6 := v.p2
  have v7 := v.steps
  have v8 := v.src
  have i0 := hin.rclock
  have i1 := hin.gm
  refine of_back p _ v hin (fun hq => ?_) (fun h11 => ?_)
  · unfold ptpRest
    rw [if_pos hq, rq0, rq1]
    simp only [Nat.reduceMul, Int.reducePow]
    rw [wrap_mod _ i0]
    omega
  · have hq : ¬ isReq p.kind = true := by rw [h11]; decide
    unfold ptpRest
    rw [if_neg hq, if_neg (show ¬ p.kind = 2 by omega), if_pos h11, an0, an2, an3, an4, an5, an6, an7, an8, an9]
    simp only [Nat.reduceMul, Int.reducePow]
    rw [wrap_mod _ i1, sgn2 _ v1]
    omega

theorem zl_zero (bs : List UInt8) (P : Nat) : ∀ k, (∀ i, i < k → num bs (P + i) 1 = 0) → zl bs 0 P k = 0
  | 0, h => rfl
  | k + 1, h => by
    unfold zl
    rw [zl_zero bs P k (fun i hi => h i (by omega)), h k (by omega)]
    exact or00

theorem kinds {k : Int} (h : sizeOfKind k ≠ 0) : (isReq k = true ∧ sizeOfKind k = 54 ∧ k ≠ 2 ∧ k ≠ 11) ∨ (isReq k = false ∧ sizeOfKind k = 54 ∧ k = 2) ∨ (isReq k = false ∧ sizeOfKind k = 64 ∧ k = 11) ∨ (isReq k = false ∧ sizeOfKind k = 44 ∧ k ≠ 2 ∧ k ≠ 11) := by
  have h0 : k = 0 ∨ k = 1 ∨ k = 8 ∨ k = 2 ∨ k = 3 ∨ k = 9 ∨ k = 10 ∨ k = 11 := by
    unfold sizeOfKind at h
    split at h
    · omega
    · split at h
      · omega
      · split at h <;> omega
  rcases h0 with rfl | rfl | rfl | rfl | rfl | rfl | rfl | rfl <;> decide
theorem rest_lens (p : Ptp) (v : Valid p) : sizeOfKind p.kind = ((44 + lens (ptpRest p) : Nat) : Int) := by
  unfold ptpRest
  rcases kinds v.size with ⟨h1, h2, h3, h4⟩ | ⟨h1, h2, h3⟩ | ⟨h1, h2, h3⟩ | ⟨h1, h2, h3, h4⟩
  · rw [if_pos h1, h2]
    rfl
  · rw [if_neg (by simp [h1]), if_pos h3, h2]
    rfl
  · rw [if_neg (by simp [h1]), if_neg (show ¬ p.kind = 2 by omega), if_pos h3, h2]
    rfl
  · rw [if_neg (by simp [h1]), if_neg h3, if_neg h4, h2]
    rfl
theorem ptp_length {p : Ptp} (v : Valid p) : ((ptpBytes p).length : Int) = sizeOfKind p.kind := by
  rw [ptpBytes_lows p v.stamp, lows_length, lens_list, rest_lens p v]
theorem two_tail (p : Ptp) : lows (ptpList p [(0, 8), (0, 2)]) = lows (ptpList p (List.replicate 10 ((0 : Int), 1))) := by
  simp only [lows, ptpList, List.flatMap_append]
  rfl
theorem num_z (p : Ptp) (i : Nat) (hi : i < 10) : num (lows (ptpList p (List.replicate 10 ((0 : Int), 1)))) (44 + i) 1 = 0 :=
  num_at _ (ptpList p (List.replicate i ((0 : Int), 1))) (List.replicate (9 - i) ((0 : Int), 1)) 0 1 (44 + i) (by
    unfold ptpList
    rw [List.append_assoc, ← List.replicate_succ, List.replicate_append_replicate, show i + (9 - i + 1) = 10 by omega]) (by
    rw [lens_list]
    simp [lens])
theorem zero_or {p : Ptp} (v : Valid p) : zeroOr (ptpBytes p) = 0 := by
  have hl := ptp_length v
  have hk := kind_back p (ptpRest p) v
  have hz := zero_back p (ptpRest p) v
  rw [← ptpBytes_lows p v.stamp] at hk hz
  unfold zeroOr
  rw [hk, hz]
  rcases kinds v.size with ⟨h1, h2, h3, h4⟩ | ⟨h1, h2, h3⟩ | ⟨h1, h2, h3⟩ | ⟨h1, h2, h3, h4⟩
  · rw [if_pos h1]
  · rw [if_neg (by simp [h1]), if_neg (show ¬ p.kind = 11 by omega), show (ptpBytes p).length - 44 = 10 by omega]
    refine zl_zero _ 44 10 fun i hi => ?_
    rw [ptpBytes_lows p v.stamp, show ptpRest p = [(0, 8), (0, 2)] by unfold ptpRest; rw [if_neg (by simp [h1]), if_pos h3], two_tail]
    exact num_z p i hi
  · rw [if_neg (by simp [h1]), if_pos h3, ptpBytes_lows p v.stamp]
    unfold ptpRest
    rw [if_neg (by simp [h1]), if_neg (show ¬ p.kind = 2 by omega), if_pos h3, an1]
    exact or00
  · rw [if_neg (by simp [h1]), if_neg h4, show (ptpBytes p).length - 44 = 0 by omega]
    rfl

/-- What was written is read. -/
theorem ptp_err0 {p : Ptp} (h : ptpCheck p = 0) (hin : p.In) : ptpErr (ptpBytes p) = 0 := by
  have v := valid_of h
  have hl := ptp_length v
  have hk : kindOf (ptpBytes p) = p.kind := by
    rw [ptpBytes_lows p v.stamp]
    exact kind_back p _ v
  have h11 : num (ptpBytes p) 1 1 = 2 := by
    rw [ptpBytes_lows p v.stamp, hn1]
    rfl
  have h22 : (num (ptpBytes p) 2 2 : Int) = sizeOfKind p.kind := by
    rw [ptpBytes_lows p v.stamp, hn2]
    simp only [Nat.reduceMul, Int.reducePow]
    rcases kinds v.size with h | h | h | h <;> omega
  have hs : 44 ≤ sizeOfKind p.kind := by rcases kinds v.size with h | h | h | h <;> omega
  unfold ptpErr
  rw [hk, h11, h22, zero_or v, ptp_of h hin, if_neg (by omega), if_neg (by have := v.size; simp [this]), if_neg (by omega), if_neg (by simp), if_neg (by omega), if_neg (by simp)]
  exact h
theorem ptp_got {p : Ptp} (h : ptpCheck p = 0) (hin : p.In) : ptpGot (ptpBytes p) = p := by
  unfold ptpGot
  rw [if_pos (ptp_err0 h hin), ptp_of h hin]
theorem ptp_inj {p q : Ptp} (h : ptpCheck p = 0) (hin : p.In) (h' : ptpCheck q = 0) (hin' : q.In) (he : ptpBytes p = ptpBytes q) : p = q := by
  rw [← ptp_of h hin, he, ptp_of h' hin']

theorem num_pre (a b : List UInt8) (P s : Nat) (h : P + s ≤ a.length) : num (a ++ b) P s = num a P s := by
  unfold num sub
  rw [List.drop_append_of_le_length (by omega), List.take_append_of_le_length (by rw [List.length_drop]; omega)]
/-- Fewer bytes are too short, and one more is too long. -/
theorem ptp_cut {p : Ptp} (h : ptpCheck p = 0) (m : Nat) (hm : m < (ptpBytes p).length) : ptpErr ((ptpBytes p).take m) = 5 := by
  have v := valid_of h
  have hl := ptp_length v
  have hb := ptpBytes_lows p v.stamp
  have e : (ptpBytes p).take m ++ (ptpBytes p).drop m = ptpBytes p := List.take_append_drop m _
  have hlen : ((ptpBytes p).take m).length = m := by rw [List.length_take]; omega
  unfold ptpErr
  rw [hlen]
  split
  · rfl
  · have hk : kindOf ((ptpBytes p).take m) = p.kind := by
      have h2 := kind_back p (ptpRest p) v
      rw [← hb] at h2
      unfold kindOf at h2 ⊢
      rwa [← e, num_pre _ _ 0 1 (by omega)] at h2
    have h11 : num ((ptpBytes p).take m) 1 1 = 2 := by
      have h2 : num (ptpBytes p) 1 1 = 2 := by
        rw [hb, hn1]
        rfl
      rwa [← e, num_pre _ _ 1 1 (by omega)] at h2
    rw [hk, h11, if_neg (by have := v.size; simp [this]), if_pos (by omega)]
theorem ptp_more {p : Ptp} (h : ptpCheck p = 0) (x : List UInt8) (hx : 0 < x.length) : ptpErr (ptpBytes p ++ x) = 6 := by
  have v := valid_of h
  have hl := ptp_length v
  have hb := ptpBytes_lows p v.stamp
  have hs : 44 ≤ sizeOfKind p.kind := by rcases kinds v.size with h | h | h | h <;> omega
  have hk : kindOf (ptpBytes p ++ x) = p.kind := by
    have h2 := kind_back p (ptpRest p) v
    rw [← hb] at h2
    unfold kindOf at h2 ⊢
    rwa [num_pre _ _ 0 1 (by omega)]
  have h11 : num (ptpBytes p ++ x) 1 1 = 2 := by
    rw [num_pre _ _ 1 1 (by omega), hb, hn1]
    rfl
  have h22 : (num (ptpBytes p ++ x) 2 2 : Int) = sizeOfKind p.kind := by
    rw [num_pre _ _ 2 2 (by omega), hb, hn2]
    simp only [Nat.reduceMul, Int.reducePow]
    rcases kinds v.size with h | h | h | h <;> omega
  unfold ptpErr
  rw [List.length_append, hk, h11, h22, if_neg (by omega), if_neg (by have := v.size; simp [this]), if_neg (by omega), if_neg (by simp), if_pos (by omega)]

/-! ### What is read is written -/
theorem or_zero (a b : Int) (h : bits .or .i64 a b = 0) : a % 18446744073709551616 = 0 ∧ b % 18446744073709551616 = 0 := by
  have h1 : IntKind.i64.wrap (((BitVec.ofInt 64 a ||| BitVec.ofInt 64 b).toNat : Nat) : Int) = 0 := h
  have h2 := (BitVec.ofInt 64 a ||| BitVec.ofInt 64 b).isLt
  rw [IntKind.wrap_i64] at h1
  have h3 : (BitVec.ofInt 64 a ||| BitVec.ofInt 64 b).toNat = 0 := by omega
  rw [BitVec.toNat_or, Nat.or_eq_zero_iff, BitVec.toNat_ofInt, BitVec.toNat_ofInt] at h3
  obtain ⟨h4, h5⟩ := h3
  have e : (((2 ^ 64 : Nat)) : Int) = 18446744073709551616 := rfl
  rw [e] at h4 h5
  omega
theorem xor_zero (a b : Int) (h : bits .xor .i64 a b = 0) : a % 18446744073709551616 = b % 18446744073709551616 := by
  have h1 : IntKind.i64.wrap (((BitVec.ofInt 64 a ^^^ BitVec.ofInt 64 b).toNat : Nat) : Int) = 0 := h
  have h2 := (BitVec.ofInt 64 a ^^^ BitVec.ofInt 64 b).isLt
  rw [IntKind.wrap_i64] at h1
  have h3 : (BitVec.ofInt 64 a ^^^ BitVec.ofInt 64 b).toNat = 0 := by omega
  have h4 : BitVec.ofInt 64 a ^^^ BitVec.ofInt 64 b = 0#64 := BitVec.eq_of_toNat_eq (by rw [h3]; rfl)
  have h5 := congrArg BitVec.toNat (BitVec.xor_eq_zero_iff.1 h4)
  rw [BitVec.toNat_ofInt, BitVec.toNat_ofInt] at h5
  have e : (((2 ^ 64 : Nat)) : Int) = 18446744073709551616 := rfl
  rw [e] at h5
  omega
theorem bits_range (op : BinOp) (a b : Int) : -9223372036854775808 ≤ bits op .i64 a b ∧ bits op .i64 a b ≤ 9223372036854775807 := by
  unfold bits
  rw [IntKind.wrap_i64]
  omega
theorem zl_none (bs : List UInt8) (z : Int) (hz : -9223372036854775808 ≤ z ∧ z ≤ 9223372036854775807) (P : Nat) : ∀ k, P + k ≤ bs.length → zl bs z P k = 0 → z = 0 ∧ ∀ i, i < k → num bs (P + i) 1 = 0
  | 0, hk, h => ⟨h, fun i hi => absurd hi (Nat.not_lt_zero i)⟩
  | k + 1, hk, h => by
    unfold zl at h
    obtain ⟨h1, h2⟩ := or_zero _ _ h
    have hr : -9223372036854775808 ≤ zl bs z P k ∧ zl bs z P k ≤ 9223372036854775807 := by
      cases k with
      | zero => exact hz
      | succ k => exact bits_range _ _ _
    have h3 := num_lt bs (P + k) 1 (by omega)
    obtain ⟨h4, h5⟩ := zl_none bs z hz P k (by omega) (by omega)
    refine ⟨h4, fun i hi => ?_⟩
    by_cases e : i = k
    · subst e
      omega
    · exact h5 i (by omega)

theorem pt_be_ofBe' : ∀ (r : List UInt8), be (ofBe r.reverse) r.length = r.reverse
  | [] => rfl
  | b :: r => by
    rw [List.reverse_cons, ofBe_snoc, List.length_cons, pt_be_snoc _ _ b.toNat_lt, pt_be_ofBe' r]
    simp
theorem low_sub (bs : List UInt8) (P s : Nat) (h : P + s ≤ bs.length) : low ((num bs P s : Nat) : Int) s = sub bs P s := by
  have h1 := num_lt bs P s h
  unfold low
  have e2 : (((2 ^ (8 * s) : Nat)) : Int) = (2 : Int) ^ (8 * s) := by simp
  have e : (256 : Nat) ^ s = 2 ^ (8 * s) := by rw [Nat.pow_mul]
  rw [Int.emod_eq_of_lt (by omega) (by omega), Int.toNat_natCast]
  have h2 := pt_be_ofBe' (sub bs P s).reverse
  rw [List.reverse_reverse, List.length_reverse, sub_length bs P s h] at h2
  exact h2
theorem low_mod {a b : Int} {s : Nat} (h : a % 2 ^ (8 * s) = b % 2 ^ (8 * s)) : low a s = low b s := by
  unfold low
  rw [h]
theorem lows_step {x : Int} {s : Nat} {l : List (Int × Nat)} {bs : List UInt8} {P : Nat} (hle : P + s ≤ bs.length) (h1 : low x s = low ((num bs P s : Nat) : Int) s) (h2 : lows l = bs.drop (P + s)) : lows ((x, s) :: l) = bs.drop P := by
  have e : lows ((x, s) :: l) = low x s ++ lows l := rfl
  rw [e, h1, h2, low_sub bs P s hle]
  unfold sub
  rw [← List.drop_drop, List.take_append_drop]
theorem low_wrap (n : Int) : low (wrap64 n) 8 = low n 8 := by
  apply low_mod
  unfold wrap64
  simp only [Nat.reduceMul, Int.reducePow]
  omega
theorem low_sgn8 (n : Nat) : low (sgn n 8) 8 = low n 8 := by
  apply low_mod
  unfold sgn
  simp only [Nat.reduceMul, Nat.reduceSub, Nat.reducePow, Int.reducePow]
  split <;> omega
theorem low_sgn2 (n : Nat) : low (sgn n 2) 2 = low n 2 := by
  apply low_mod
  unfold sgn
  simp only [Nat.reduceMul, Nat.reduceSub, Nat.reducePow, Int.reducePow]
  split <;> omega
theorem low_sgn1 (n : Nat) : low (sgn n 1) 1 = low n 1 := by
  apply low_mod
  unfold sgn
  simp only [Nat.reduceMul, Nat.reduceSub, Nat.reducePow, Int.reducePow]
  split <;> omega

theorem zero_head {bs : List UInt8} (hl : 44 ≤ bs.length) (h : zeroHead bs = 0) : num bs 5 1 = 0 ∧ num bs 16 4 = 0 ∧ (num bs 32 1 : Int) = controlOf (kindOf bs) := by
  unfold zeroHead at h
  obtain ⟨h1, h2⟩ := or_zero _ _ h
  have hb := bits_range .or (num bs 5 1 : Nat) (num bs 16 4 : Nat)
  have hb2 := bits_range .xor (num bs 32 1 : Nat) (controlOf (kindOf bs))
  obtain ⟨h3, h4⟩ := or_zero (num bs 5 1 : Nat) (num bs 16 4 : Nat) (by omega)
  have h5 := xor_zero (num bs 32 1 : Nat) (controlOf (kindOf bs)) (by omega)
  have l1 := num_lt bs 5 1 (by omega)
  have l2 := num_lt bs 16 4 (by omega)
  have l3 := num_lt bs 32 1 (by omega)
  have hc := ctl_range (kindOf bs)
  omega

theorem err_zero {bs : List UInt8} (h : ptpErr bs = 0) : 34 ≤ bs.length ∧ sizeOfKind (kindOf bs) ≠ 0 ∧ num bs 1 1 = 2 ∧ (bs.length : Int) = sizeOfKind (kindOf bs) ∧ (num bs 2 2 : Int) = sizeOfKind (kindOf bs) ∧ zeroOr bs = 0 ∧ ptpCheck (ptpOf bs) = 0 := by
  unfold ptpErr at h
  by_cases c0 : bs.length < 34
  · rw [if_pos c0] at h
    omega
  rw [if_neg c0] at h
  by_cases c1 : sizeOfKind (kindOf bs) = 0 ∨ num bs 1 1 ≠ 2
  · rw [if_pos c1] at h
    omega
  rw [if_neg c1] at h
  by_cases c2 : (bs.length : Int) < sizeOfKind (kindOf bs)
  · rw [if_pos c2] at h
    omega
  rw [if_neg c2] at h
  by_cases c3 : (num bs 2 2 : Int) ≠ sizeOfKind (kindOf bs)
  · rw [if_pos c3] at h
    omega
  rw [if_neg c3] at h
  by_cases c4 : sizeOfKind (kindOf bs) < (bs.length : Int)
  · rw [if_pos c4] at h
    omega
  rw [if_neg c4] at h
  by_cases c5 : zeroOr bs ≠ 0
  · rw [if_pos c5] at h
    omega
  rw [if_neg c5] at h
  refine ⟨by omega, by omega, by omega, by omega, by omega, by omega, h⟩

/-- What is accepted is what is written. -/
theorem ptp_canon {bs : List UInt8} (h : ptpErr bs = 0) : ptpBytes (ptpOf bs) = bs := by
  obtain ⟨h0, h1, h2, h3, h4, h5, h6⟩ := err_zero h
  have v := valid_of h6
  rw [ptpBytes_lows _ v.stamp]
  have hk : (ptpOf bs).kind = kindOf bs := rfl
  have k0 : low (kindOf bs) 1 = low ((num bs 0 1 : Nat) : Int) 1 := rfl
  have hs : 44 ≤ sizeOfKind (kindOf bs) := by rcases kinds h1 with h | h | h | h <;> omega
  have head : zeroHead bs = 0 → lows (ptpRest (ptpOf bs)) = bs.drop 44 → lows (ptpList (ptpOf bs) (ptpRest (ptpOf bs))) = bs := by
    intro hz hr
    obtain ⟨z0, z1, z2⟩ := zero_head (by omega) hz
    refine lows_step (P := 0) (by omega) rfl ?_
    refine lows_step (P := 1) (by omega) (by rw [h2]; rfl) ?_
    refine lows_step (P := 2) (by omega) (by rw [hk, h4]) ?_
    refine lows_step (P := 4) (by omega) rfl ?_
    refine lows_step (P := 5) (by omega) (by rw [z0]; rfl) ?_
    refine lows_step (P := 6) (by omega) rfl ?_
    refine lows_step (P := 8) (by omega) (low_sgn8 _) ?_
    refine lows_step (P := 16) (by omega) (by rw [z1]; rfl) ?_
    refine lows_step (P := 20) (by omega) (low_wrap _) ?_
    refine lows_step (P := 28) (by omega) rfl ?_
    refine lows_step (P := 30) (by omega) rfl ?_
    refine lows_step (P := 32) (by omega) (by rw [hk, z2]) ?_
    refine lows_step (P := 33) (by omega) (low_sgn1 _) ?_
    refine lows_step (P := 34) (by omega) rfl ?_
    refine lows_step (P := 40) (by omega) rfl ?_
    exact hr
  have hd : ∀ n, bs.length = n → lows [] = bs.drop n := fun n e => by rw [← e, List.drop_length]; rfl
  unfold zeroOr at h5
  rcases kinds h1 with ⟨a1, a2, a3, a4⟩ | ⟨a1, a2, a3⟩ | ⟨a1, a2, a3⟩ | ⟨a1, a2, a3, a4⟩
  · rw [if_pos a1] at h5
    refine head h5 ?_
    unfold ptpRest
    rw [hk, if_pos a1]
    have r0 : (ptpOf bs).rclock = (num bs 44 8 : Nat) := if_pos a1
    have r1 : (ptpOf bs).rport = (num bs 52 2 : Nat) := if_pos a1
    rw [r0, r1]
    refine lows_step (P := 44) (by omega) (low_wrap _) ?_
    refine lows_step (P := 52) (by omega) rfl ?_
    exact hd 54 (by omega)
  · rw [if_neg (by simp [a1]), if_neg (by omega), show bs.length - 44 = 10 by omega] at h5
    obtain ⟨b0, b1⟩ := zl_none bs _ (bits_range _ _ _) 44 10 (by omega) h5
    refine head b0 ?_
    unfold ptpRest
    rw [hk, if_neg (by simp [a1]), if_pos a3]
    have e : lows [((0 : Int), 8), (0, 2)] = lows (List.replicate 10 ((0 : Int), 1)) := rfl
    have z : ∀ i, i < 10 → low 0 1 = low ((num bs (44 + i) 1 : Nat) : Int) 1 := fun i hi => by rw [b1 i hi]; rfl
    rw [e]
    refine lows_step (P := 44) (by omega) (z 0 (by omega)) ?_
    refine lows_step (P := 45) (by omega) (z 1 (by omega)) ?_
    refine lows_step (P := 46) (by omega) (z 2 (by omega)) ?_
    refine lows_step (P := 47) (by omega) (z 3 (by omega)) ?_
    refine lows_step (P := 48) (by omega) (z 4 (by omega)) ?_
    refine lows_step (P := 49) (by omega) (z 5 (by omega)) ?_
    refine lows_step (P := 50) (by omega) (z 6 (by omega)) ?_
    refine lows_step (P := 51) (by omega) (z 7 (by omega)) ?_
    refine lows_step (P := 52) (by omega) (z 8 (by omega)) ?_
    refine lows_step (P := 53) (by omega) (z 9 (by omega)) ?_
    exact hd 54 (by omega)
  · rw [if_neg (by simp [a1]), if_pos a3] at h5
    obtain ⟨b0, b1⟩ := or_zero _ _ h5
    have b2 := bits_range .or (bits .or .i64 (num bs 5 1 : Nat) (num bs 16 4 : Nat)) (bits .xor .i64 (num bs 32 1 : Nat) (controlOf (kindOf bs)))
    have b3 : -9223372036854775808 ≤ zeroHead bs ∧ zeroHead bs ≤ 9223372036854775807 := b2
    have l1 := num_lt bs 46 1 (by omega)
    have z46 : num bs 46 1 = 0 := by omega
    refine head (by omega) ?_
    unfold ptpRest
    rw [hk, if_neg (by simp [a1]), if_neg (by omega), if_pos a3]
    have r0 : (ptpOf bs).utc = sgn (num bs 44 2) 2 := if_pos a3
    have r1 : (ptpOf bs).p1 = (num bs 47 1 : Nat) := if_pos a3
    have r2 : (ptpOf bs).cls = (num bs 48 1 : Nat) := if_pos a3
    have r3 : (ptpOf bs).acc = (num bs 49 1 : Nat) := if_pos a3
    have r4 : (ptpOf bs).var = (num bs 50 2 : Nat) := if_pos a3
    have r5 : (ptpOf bs).p2 = (num bs 52 1 : Nat) := if_pos a3
    have r6 : (ptpOf bs).gm = (num bs 53 8 : Nat) := if_pos a3
    have r7 : (ptpOf bs).steps = (num bs 61 2 : Nat) := if_pos a3
    have r8 : (ptpOf bs).src = (num bs 63 1 : Nat) := if_pos a3
    rw [r0, r1, r2, r3, r4, r5, r6, r7, r8]
    refine lows_step (P := 44) (by omega) (low_sgn2 _) ?_
    refine lows_step (P := 46) (by omega) (by rw [z46]; rfl) ?_
    refine lows_step (P := 47) (by omega) rfl ?_
    refine lows_step (P := 48) (by omega) rfl ?_
    refine lows_step (P := 49) (by omega) rfl ?_
    refine lows_step (P := 50) (by omega) rfl ?_
    refine lows_step (P := 52) (by omega) rfl ?_
    refine lows_step (P := 53) (by omega) (low_wrap _) ?_
    refine lows_step (P := 61) (by omega) rfl ?_
    refine lows_step (P := 63) (by omega) rfl ?_
    exact hd 64 (by omega)
  · rw [if_neg (by simp [a1]), if_neg a4, show bs.length - 44 = 0 by omega] at h5
    refine head h5 ?_
    unfold ptpRest
    rw [hk, if_neg (by simp [a1]), if_neg a3, if_neg a4]
    exact hd 44 (by omega)
end Go.Proofs.Ytlobddhpkemklaa
