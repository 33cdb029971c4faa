/- bytes.Repeat of one byte, twelve times. -/
import Derived.Test.YtgihbhplmhpciaaMem
import Derived.Lib.MakeNoZero
import Derived.Laws.Externs
import Derived.Deep.RegionLaw
import Derived.Outline
namespace Go.Proofs.Ytgihbhplmhpciaa
open Go.RowKit
set_option linter.unusedVariables false

theorem mul_any (w : World) : Calls Try.prog 39 #[.int .u64 1, .int .u64 12] w fun e w' => e = .returned (.tuple #[.int .u64 0, .int .u64 12]) ∧ w = w' := by
  go_enter Try.func39, Try.ntmps39
  go_wp2
  go_ret2
  exact ⟨rfl, rfl⟩

theorem repeat_any (A : Option Addr) (c : Nat) (x : UInt8) (w : World) (h : RB w A 1 c [x]) :
    Calls Try.prog 27 #[.slice A 1 c, .int .i64 12] w fun e w' => ∃ A', e = .returned (.slice A' 12 12) ∧ RB w' A' 12 12 (List.replicate 12 x) ∧ Below w.heap.size w w' := by
  obtain ⟨cs, hrunM, hle, hmax⟩ := Lib.run_makeNoZero (P := Try.prog) w #[3] 22 5 Try.underlying22 12 (by omega)
  have hcall : (callFunc 40 #[.int .i64 12]).run Try.prog w = .ok (.value (.slice (some ⟨w.heap.size, 0, none⟩) 12 cs.size)) ((w.alloc (.cells cs 5)).drewN 2) := by
    rw [run_callFunc_extern Try.func40 (by kernel_rfl) (by kernel_rfl) (by kernel_rfl) (e := Extern.BytealgMakeNoZero.makeNoZero #[3] #[22]) (by kernel_rfl)]
    rw [show (12 : Int) = ((12 : Nat) : Int) from rfl, hrunM]
    rfl
  clear hrunM
  have i1 : (12 : Int) ≤ (cs.size : Int) := by omega
  go_enter Try.func27, Try.ntmps27
  have hblk : Blk ((w.alloc (.cells cs 5)).drewN 2) w.heap.size 5 cs.toList := by
    unfold Blk
    simpa using heap_alloc_new w (.cells cs 5)
  have hB0 : Below w.heap.size w ((w.alloc (.cells cs 5)).drewN 2) := ((Below.refl _ w).alloc (Nat.le_refl _) _).trans ⟨rfl, rfl, rfl, Nat.le_refl _, fun _ _ => rfl⟩
  have Hle := hide hle
  clear hle hmax
  go_wp2_with (first
    | (go_at_call 39; refine (mul_any _).mono ?_; rintro e w' ⟨rfl, rfl⟩)
    | (refine copy_bytes rfl (.tmp 58) (.tmp 59) rfl w.heap.size 0 12 12 _ A 1 c [x] rfl rfl hblk (h.below hB0) (by omega) (by have := Hle.out; simp; omega) w.heap.size w hB0 (Nat.le_refl _) ?_; intro w2 hb2 hB2 hz2 _))
  go_loopw [10] (fun v wr => ∃ k : Nat, 1 ≤ k ∧ k ≤ 12 ∧ v = .int .i64 k ∧ (∃ cur, Blk wr w.heap.size 5 cur ∧ 12 ≤ cur.length ∧ cur.take k = List.replicate k (.int .u8 (x.toNat : Int))) ∧ Below w.heap.size w wr) (fun v _ => 12 - (intOf v).toNat)
  case atStart =>
    refine ⟨1, by omega, by omega, rfl, ⟨_, hb2, ?_, ?_⟩, hB2⟩
    · have := Hle.out
      simp [BV]
      omega
    · simp [BV]
  case round =>
    obtain ⟨k, hk1, hk, rfl, ⟨cur, hcur, hlen, htake⟩, hB⟩ := hrel
    by_cases hlt : k < 12
    · obtain ⟨m, hm⟩ : ∃ m, m = min k (12 - k) := ⟨_, rfl⟩
      have hm1 : 1 ≤ m := by omega
      have hm2 : k + m ≤ 12 := by omega
      have hmk : m ≤ k := by omega
      have Hmin := hide (show (cur.take m).length = Nat.min k (12 - k) by rw [List.length_take, hm]; simp only [Nat.min_def]; (repeat' split) <;> omega)
      have Hlm := hide (show (cur.take m).length = m by rw [List.length_take]; omega)
      have Hsrc := hide (show ∀ (W : World), Blk W w.heap.size 5 cur → ∀ j v, (cur.take m)[j]? = some v → W.cell? ((⟨w.heap.size, 0, none⟩ : Addr).add j) = some v from fun W hW j v hj => by
        rw [Addr.add_lit, Nat.zero_add, hW.cell]
        rw [List.getElem?_take] at hj
        split at hj
        · exact hj
        · cases hj)
      have Hone := hide (show ∀ v ∈ cur.take m, v.oneCell' = true from fun v hv => by
        have h1 : v ∈ cur.take k := (List.take_subset_take_left cur hmk) hv
        rw [htake] at h1
        rw [List.eq_of_mem_replicate h1]
        rfl)
      have Hm := hide hm
      have Htk := hide htake
      clear hm htake
      go_wp2
      have hk12 : (k : Int) ≤ 12 := by omega
      have hk0 : (0 : Int) ≤ k := by omega
      have hne : ¬ 12 = k := by omega
      have hrun := run_copy_row (P := Try.prog) (ty := 3) wr.drew 22 22 5 w.heap.size k (12 - k) (12 - k) ⟨w.heap.size, 0, none⟩ k 12 cur.toArray 5 (cur.take m) Try.underlying22 info_u8s hcur Hmin.out (Hsrc.out _ hcur) (by rw [Hlm.out]; simp; omega) Hone.out
      rw [Hlm.out] at hrun
      generalize hcn : (cur.toArray.toList.take k ++ cur.take m ++ cur.toArray.toList.drop (k + m)).toArray = cn at hrun
      have Hcn := hide hcn
      clear hcn
      go_region
      go_wp2
      have hset := setRow_heap wr.drew w.heap.size cur.toArray cn 5 (0, 0) hcur
      refine ⟨⟨k + m, by omega, by omega, by go_num, ⟨cn.toList, ?_, ?_, ?_⟩, below_setRow hB.drew (Nat.le_refl _) _⟩, by simp [intOf]; omega⟩
      · simpa [Blk] using hset
      · rw [← Hcn.out]
        simp
        omega
      · rw [← Hcn.out]
        have h1 : cur.take k = List.replicate k (.int .u8 (x.toNat : Int)) := Htk.out
        have h2 : cur.take m = List.replicate m (.int .u8 (x.toNat : Int)) := by
          have : (cur.take k).take m = cur.take m := by rw [List.take_take, Nat.min_eq_left hmk]
          rw [← this, h1, List.take_replicate, Nat.min_eq_left hmk]
        show ((cur.take k ++ cur.take m ++ cur.drop (k + m))).take (k + m) = _
        rw [List.take_append_of_le_length (by rw [List.length_append, h1, h2]; simp), h1, h2, List.replicate_append_replicate, List.take_of_length_le (by simp)]
    · obtain rfl : k = 12 := by omega
      go_wp2
      go_ret
      refine ⟨_, rfl, ⟨by simp, by omega, by omega, fun _ => ⟨w.heap.size, 0, rfl, hcur.lt, fun j u hu => ?_⟩⟩, hB⟩
      rw [hcur.cell, Nat.zero_add, ← hu]
      have hj : j < 12 := by
        have := (List.getElem?_eq_some_iff.1 hu).1
        simpa [BV] using this
      have h1 : (cur.take 12)[j]? = cur[j]? := by rw [List.getElem?_take, if_pos hj]
      rw [← h1, htake]
      simp [BV]
end Go.Proofs.Ytgihbhplmhpciaa
