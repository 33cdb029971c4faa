/- The reference's fixed.
  SEATS: ptp -/
import Derived.Test.YtlobddhpkemklaaRefG
import Derived.BigQuiet
namespace Go.Proofs.Ytlobddhpkemklaa
open Go.RowKit
set_option linter.unusedVariables false

theorem below_dn' {B : Nat} {w W : World} (h : Below B w W) (q : Nat) : Below B w (W.drewN q) := h.trans ⟨rfl, rfl, rfl, Nat.le_refl _, fun _ _ => rfl⟩
/-- Are the bytes right that do not depend on the message? -/
def fixedB (bs : List UInt8) (K : Int) : Bool := (((nth bs 5).toNat : Int) == 0) && (zerosB bs 16 4 && ((((nth bs 32).toNat : Int) == controlOf K) && (if K = 2 then zerosB bs 44 10 else if K = 11 then (((nth bs 46).toNat : Int) == 0) else true)))

set_option maxHeartbeats 1000000 in
theorem refFixed_any (b o m c : Nat) (bs : List UInt8) (K : Int) (w : World) (h : RB w (some ⟨b, o, none⟩) m c bs) (h44 : 44 ≤ m) (h2 : K = 2 → 54 ≤ m) (h11 : K = 11 → 64 ≤ m) :
    Calls Try.prog 37 #[.slice (some ⟨b, o, none⟩) m c, .int .i64 K] w fun e w' => e = .returned (.bool (fixedB bs K)) ∧ Below w.heap.size w w' := by
  have Hl := hide h.len
  have hcp := h.cap
  have hmx := h.max
  have hd : ∀ n, RB (w.drewN n) (some ⟨b, o, none⟩) m c bs := fun n => h.below (below_drewN w n)
  have hj5 : (5 : Int) < (m : Int) := by omega
  have hj32 : (32 : Int) < (m : Int) := by omega
  have at_ : ∀ i, i < m → w.cell? ⟨b, o + i, none⟩ = some (.int .u8 ((nth bs i).toNat : Int)) := by
    intro i hi
    obtain ⟨b1, o1, e1, k0⟩ := h.at_ i (by have := Hl.out; omega)
    injection e1 with e1
    injection e1 with e2 e3 e4
    subst e2 e3
    exact k0
  have k5 := at_ 5 (by omega)
  have k32 := at_ 32 (by omega)
  have H46 := hide (fun (h : 64 ≤ m) => at_ 46 (by omega))
  clear at_
  unfold fixedB
  have hx1 : (0 : Int) ≤ ((nth bs 32).toNat : Int) := Int.natCast_nonneg _
  have hx2 : ((nth bs 32).toNat : Int) < 256 := by have := (nth bs 32).toNat_lt; omega
  generalize ((nth bs 5).toNat : Int) = x5 at *
  generalize ((nth bs 32).toNat : Int) = x32 at *
  generalize ((nth bs 46).toNat : Int) = x46 at *
  have HZ := hide (fun w h => refZeros_any b o m c bs 16 4 w h (by omega) (by omega) (by omega))
  have HZ2 := hide (fun w h (hk : 54 ≤ m) => refZeros_any b o m c bs 44 10 w h (by omega) (by omega) (by omega))
  have H2 := hide h2
  have H11 := hide h11
  clear h2 h11
  generalize zerosB bs 16 4 = z1 at *
  generalize zerosB bs 44 10 = z2 at *
  by_cases h5 : x5 = 0
  · subst h5
    cases z1
    · rw [Bool.false_and, Bool.and_false]
      go_enter Try.func37, Try.ntmps37
      go_wp2
      go_quiet (first
        | (go_at_call 51; refine Calls.quiet_of_same ((HZ.out _ (hd _)).mono (fun _ _ ⟨he, hm⟩ => ⟨he, hm.symm⟩)))
        | (go_at_call 32; refine Calls.quiet_of_same ((refControl_any _ _).mono (fun _ _ ⟨he, hm⟩ => ⟨he, hm.symm⟩))))
      go_wp2
      go_ret
      exact ⟨rfl, below_dn' (Below.refl _ _) _⟩
    · by_cases hc : x32 = controlOf K
      · rw [show (x32 == controlOf K) = true by simpa using hc]
        have hcn : (x32 != controlOf K) = false := by simpa using hc
        clear hc
        by_cases hk2 : K = 2
        · have h54 : 54 ≤ m := H2.out hk2
          subst hk2
          rw [if_pos rfl]
          go_enter Try.func37, Try.ntmps37
          go_wp2
          go_quiet (first
            | (go_at_call 51; refine Calls.quiet_of_same ((HZ.out _ (hd _)).mono (fun _ _ ⟨he, hm⟩ => ⟨he, hm.symm⟩)))
            | (go_at_call 32; refine Calls.quiet_of_same ((refControl_any _ _).mono (fun _ _ ⟨he, hm⟩ => ⟨he, hm.symm⟩))))
          go_wp2_with fail
          refine (HZ2.out _ (hd _) h54).mono ?_
          rintro e w2 ⟨rfl, rfl⟩
          go_wp2
          go_ret
          exact ⟨rfl, below_dn' (Below.refl _ _) _⟩
        · have hk2' : (K == 2) = false := by simpa using hk2
          rw [if_neg hk2]
          by_cases hk11 : K = 11
          · subst hk11
            have hj46 : (46 : Int) < (m : Int) := by have := H11.out rfl; omega
            have k46 := H46.out (H11.out rfl)
            rw [if_pos rfl]
            clear hk2
            go_enter Try.func37, Try.ntmps37
            go_wp2
            go_quiet (first
              | (go_at_call 51; refine Calls.quiet_of_same ((HZ.out _ (hd _)).mono (fun _ _ ⟨he, hm⟩ => ⟨he, hm.symm⟩)))
              | (go_at_call 32; refine Calls.quiet_of_same ((refControl_any _ _).mono (fun _ _ ⟨he, hm⟩ => ⟨he, hm.symm⟩))))
            go_wp2
            go_ret
            exact ⟨rfl, below_dn' (Below.refl _ _) _⟩
          · rw [if_neg hk11]
            have hk11' : (K != 11) = true := by simpa using hk11
            clear hk2 hk11
            go_enter Try.func37, Try.ntmps37
            go_wp2
            go_quiet (first
              | (go_at_call 51; refine Calls.quiet_of_same ((HZ.out _ (hd _)).mono (fun _ _ ⟨he, hm⟩ => ⟨he, hm.symm⟩)))
              | (go_at_call 32; refine Calls.quiet_of_same ((refControl_any _ _).mono (fun _ _ ⟨he, hm⟩ => ⟨he, hm.symm⟩))))
            go_wp2
            go_ret
            exact ⟨rfl, below_dn' (Below.refl _ _) _⟩
      · rw [show (x32 == controlOf K) = false by simpa using hc, Bool.false_and, Bool.and_false, Bool.and_false]
        have hcn : (x32 != controlOf K) = true := by simpa using hc
        clear hc
        go_enter Try.func37, Try.ntmps37
        go_wp2
        go_quiet (first
          | (go_at_call 51; refine Calls.quiet_of_same ((HZ.out _ (hd _)).mono (fun _ _ ⟨he, hm⟩ => ⟨he, hm.symm⟩)))
          | (go_at_call 32; refine Calls.quiet_of_same ((refControl_any _ _).mono (fun _ _ ⟨he, hm⟩ => ⟨he, hm.symm⟩))))
        go_wp2
        go_ret
        exact ⟨rfl, below_dn' (Below.refl _ _) _⟩
  · have h5' : (x5 != 0) = true := by simpa using h5
    rw [show (x5 == 0) = false by simpa using h5, Bool.false_and]
    clear h5
    go_enter Try.func37, Try.ntmps37
    go_wp2
    go_quiet (first
      | (go_at_call 51; refine Calls.quiet_of_same ((HZ.out _ (hd _)).mono (fun _ _ ⟨he, hm⟩ => ⟨he, hm.symm⟩)))
      | (go_at_call 32; refine Calls.quiet_of_same ((refControl_any _ _).mono (fun _ _ ⟨he, hm⟩ => ⟨he, hm.symm⟩))))
    go_wp2
    go_ret
    exact ⟨rfl, below_dn' (Below.refl _ _) _⟩
end Go.Proofs.Ytlobddhpkemklaa
