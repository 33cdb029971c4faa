/- TopPackets: packets are read as they were written.
  SEATS: ext -/
import Derived.Test.YtgihbhplmhpciaaNtpP
import Derived.Test.YtgihbhplmhpciaaAuth
import Derived.Test.YtgihbhplmhpciaaPlain20
import Derived.Test.YtgihbhplmhpciaaSame
import Derived.Test.YtgihbhplmhpciaaNtpEq
import Derived.Deep.QuietTactic
import Derived.BigQuiet
namespace Go.Proofs.Ytgihbhplmhpciaa
open Go.RowKit
set_option linter.unusedVariables false

theorem fieldsError_any (D : Option Addr) (n d : Nat) (l : List Ext) (w : World) (hl : RE w D n d l) :
    Calls Try.prog 21 #[.slice D n d] w fun e w' => e = .returned (.int .i64 (appendErr l)) ∧ Below w.heap.size w w' := by
  have Hlen := hide hl.len
  have hnn := hl.cap
  have hnm := hl.max
  by_cases h16 : 16 < n
  · have ha : appendErr l = 6 := by unfold appendErr; rw [if_pos (by rw [Hlen.out]; exact h16)]
    have Ha := hide ha
    clear ha
    go_enter Try.func21, Try.ntmps21
    go_wp2
    go_ret
    rw [Ha.out]
    exact ⟨rfl, Below.refl _ _⟩
  · have ha : appendErr l = extErr l := by unfold appendErr; rw [if_neg (by rw [Hlen.out]; exact h16)]
    rw [ha]
    clear ha
    go_enter Try.func21, Try.ntmps21
    go_wp2
    go_loopw [11] (fun i wr => ∃ k : Nat, k ≤ n ∧ i = .int .i64 k ∧ Hid (extErr (l.take k) = 0) ∧ Below w.heap.size w wr) (fun i _ => n - (intOf i).toNat)
    case atStart => exact ⟨0, Nat.zero_le _, rfl, rfl, Below.refl _ _⟩
    case round =>
      obtain ⟨k, hk, rfl, Hp, hB⟩ := hrel
      by_cases hlt : k < n
      · obtain ⟨x, hxk⟩ := get_some (l := l) (k := k) (by have := Hlen.out; omega)
        obtain ⟨b, o, rfl, hblt, hkd, hc0, A', m', c', hc1, hrx⟩ := (hl.below hB).at_ hxk
        have hs := extErr_snoc (l.take k) x
        rw [← take_snoc hxk, if_pos Hp.out, hrx.len] at hs
        have Hs := hide hs
        clear hs hxk
        by_cases hck : extCheck x.kind m' = 0
        · have hck' : (extCheck x.kind m' != 0) = false := by rw [hck]; rfl
          have Hck := hide hck
          clear hck
          go_wp2_with (go_at_call 11; refine (check_any _ _ _ _ _ (by have := hrx.cap; have := hrx.max; omega)).mono ?_; rintro e w1 ⟨rfl, hb1⟩)
          refine ⟨⟨k + 1, by omega, by go_num, ?_, ?_⟩, by simp [intOf]; omega⟩
          · exact Hs.out.trans Hck.out
          · exact below_step (hB.alloc hB.size _) hb1 (by simp; have := hB.size; omega)
        · have hck' : (extCheck x.kind m' != 0) = true := by simpa using hck
          have Hck := hide hck
          clear hck
          go_wp2_with (go_at_call 11; refine (check_any _ _ _ _ _ (by have := hrx.cap; have := hrx.max; omega)).mono ?_; rintro e w1 ⟨rfl, hb1⟩)
          go_ret
          have h1 : extErr (l.take (k + 1)) ≠ 0 := by rw [Hs.out]; exact Hck.out
          have h2 := extErr_pre _ (l.drop (k + 1)) h1
          rw [List.take_append_drop] at h2
          rw [h2, Hs.out]
          exact ⟨rfl, below_step (hB.alloc hB.size _) hb1 (by simp; have := hB.size; omega)⟩
      · obtain rfl : n = k := by omega
        have hp := Hp.out
        rw [List.take_of_length_le (by rw [Hlen.out]; omega)] at hp
        have Hq := hide hp
        clear hp
        go_wp2
        go_ret
        rw [Hq.out]
        exact ⟨rfl, hB⟩

set_option maxHeartbeats 4000000 in
theorem topPackets_any (p : Ntp) (D : Option Addr) (n d : Nat) (l : List Ext) (t : Int) (w : World) (hin : p.In) (hl : RE w D n d l) (ht : 0 ≤ t ∧ t ≤ 18446744073709551615) :
    Calls Try.prog 6 #[p.val, .slice D n d, .int .u64 t] w fun e w' => e = .returned (.bool true) ∧ Below w.heap.size w w' := by
  have hcap := hl.cap
  have hmax := hl.max
  obtain ⟨T, rfl⟩ := Int.eq_ofNat_of_zero_le ht.1
  have hTT : T < 18446744073709551616 := by omega
  have hb0 := Blk.new w 41 p.cells
  have hB0 := (Below.refl w.heap.size w).alloc (Nat.le_refl _) (.cells p.cells.toArray 41)
  have hP : p.val = .agg #[.int .i64 p.leap, .int .i64 p.version, .int .i64 p.mode, .int .i64 p.stratum, .int .i64 p.poll, .int .i64 p.prec, .int .u32 p.d1, .int .u32 p.d2, .int .u32 p.id, .int .u64 p.t1, .int .u64 p.t2, .int .u64 p.t3, .int .u64 p.t4] := rfl
  by_cases h30 : 30 < n
  · have h3 : (30 : Int) < (n : Int) := by omega
    rw [hP]
    go_enter Try.func6, Try.ntmps6
    go_wp2
    go_ret
    exact ⟨rfl, hB0⟩
  · have h3 : ¬ (30 : Int) < (n : Int) := by omega
    cases hok : p.ok
    · have Hc := hide (show ntpCheck p = 3 by unfold ntpCheck; rw [hok]; rfl)
      have HE := hide (fun w => ntpEncode_err p w hok)
      have HC := hide (fun w => ntpCheck_any p w)
      rw [Hc.out] at HC
      rw [hP] at HE HC ⊢
      go_enter Try.func6, Try.ntmps6
      go_wp2_with fail
      refine (HE.out _).mono ?_
      rintro e w1 ⟨rfl, hB1⟩
      obtain ⟨k0, k1, k2, k3, k4, k5, k6, k7, k8, k9, k10, k11, k12⟩ := blk13 (hb0.below' hB1)
      have hW1 := below_step hB0 hB1 hB0.size
      go_wp2_with fail
      refine (HC.out _).mono ?_
      rintro e w2 ⟨rfl, hB2⟩
      have hW2 := below_step hW1 hB2 hW1.size
      go_wp2
      go_ret
      exact ⟨rfl, hW2⟩
    · have Hc := hide (show ntpCheck p = 0 by unfold ntpCheck; rw [hok]; rfl)
      have HE := hide (fun w => ntpEncode_ok p w hok hin)
      have HC := hide (fun w => ntpCheck_any p w)
      have Hv := hide (ntp_ok hok).2.1
      have z0 := ntp_neq_same p
      rw [Hc.out] at HC
      rw [hP] at HE HC z0 ⊢
      have Hz0 := hide z0
      clear z0
      go_enter Try.func6, Try.ntmps6
      go_wp2_with fail
      refine (HE.out _).mono ?_
      rintro e w1 ⟨A1, m1, c1, rfl, hown1, hB1⟩
      obtain rfl : m1 = 48 := by rw [← hown1.len, ntpBytes_length]
      have hb1 := hb0.below' hB1
      obtain ⟨k0, k1, k2, k3, k4, k5, k6, k7, k8, k9, k10, k11, k12⟩ := blk13 hb1
      have hW1 := below_step hB0 hB1 hB0.size
      have hown1 := hown1.mono hB0.size
      clear hb0 hB0 hB1
      go_wp2_with fail
      refine (HC.out _).mono ?_
      rintro e w2 ⟨rfl, hB2⟩
      have hW2 := below_step hW1 hB2 hW1.size
      have hb2 := hb1.below' hB2
      have hown2 := hown1.below hB2
      clear hb1 hown1 hB2 hW1 k0 k1 k2 k3 k4 k5 k6 k7 k8 k9 k10 k11 k12
      obtain ⟨k0, k1, k2, k3, k4, k5, k6, k7, k8, k9, k10, k11, k12⟩ := blk13 hb2
      have hv1 := Hv.out.1
      by_cases he : appendErr l = 0
      · have He := hide he
        clear he
        go_wp2_with fail
        refine (append_ok A1 48 c1 _ D n d l w2 hown2.rb (hl.below hW2) (by omega) He.out).mono ?_
        rintro e w3 ⟨A3, n3, c3, rfl, hown3, hB3⟩
        have hown3 := hown3.mono (base' := w.heap.size + 1) hb2.lt
        have hW3 := below_step hW2 hB3 hW2.size
        have hb3 := hb2.below' hB3
        have Hn3 := hide (show 48 ≤ n3 ∧ n3 ≤ 5000 by
          have h1 := hown3.len
          have h2 := append_zero He.out
          have h3 := flat_le l h2.2
          rw [List.length_append, ntpBytes_length] at h1
          omega)
        have Hlt := hide (World.ownsRow.lt hown3)
        clear hown2 hB3 hW2 hb2 k0 k1 k2 k3 k4 k5 k6 k7 k8 k9 k10 k11 k12 hv1
        go_wp2_with fail
        refine (fieldsError_any D n d l w3 (hl.below hW3)).mono ?_
        rintro e w4 ⟨rfl, hB4⟩
        rw [He.out]
        have hW4 := below_step hW3 hB4 hW3.size
        have hb4 := hb3.below' hB4
        have hown4 := hown3.below hB4
        clear hown3 hW3 hb3 hB4
        go_wp2_with fail
        refine (auth_any 7 T _ (by omega) (by omega)).mono ?_
        rintro e w5 ⟨A5, n5, c5, rfl, hown5, hB5⟩
        rw [Int.toNat_natCast, show Int.toNat 7 = 7 from rfl] at hown5
        obtain rfl : n5 = 12 := by rw [← hown5.len]; simp [be_length]
        have hW5 := below_step hW4 hB5 hW4.size
        have hb5 := hb4.below' hB5
        have hown4 := hown4.below hB5
        have hr5 := hown5.rb
        have Hs := hide (auth_split 7 T (by omega) hTT)
        have Hp := hide (parse_both l (be 7 4 ++ be T 8) He.out (.inr (by simp [be_length])))
        have hb5lt := hb5.lt
        clear hB5 hW4 hb4
        go_wp2_with (refine append_bytes rfl (.tmp 51) (.tmp 53) rfl A3 n3 c3 _ A5 12 c5 _ rfl rfl (w.heap.size + 1) w5 hown4 hr5 (by have := Hn3.out; omega) (Below.refl _ _) hb5lt ?_; intro A6 n6 c6 w6 hown6 hn6 hC6 hg6 hat6)
        have hW6 := hW5.trans (hC6.mono (Nat.le_succ _))
        have hb6 := hb5.below hC6 (Nat.lt_succ_self _)
        rw [List.append_assoc] at hown6
        have hr6 := hown6.rb
        have hm6 := hn6.out
        have hle := Hn3.out
        obtain ⟨K, hK⟩ : ∃ K, 48 + K = n6 := ⟨n6 - 48, by omega⟩
        have hKl : (l.flatMap fieldBytes ++ (be 7 4 ++ be T 8)).length = K := by
          have h1 := hr6.len
          rw [List.length_append, ntpBytes_length] at h1
          omega
        have Hsub := hide (show sub (ntpBytes p ++ (l.flatMap fieldBytes ++ (be 7 4 ++ be T 8))) 48 K = l.flatMap fieldBytes ++ (be 7 4 ++ be T 8) by
          unfold sub
          rw [List.drop_left' (ntpBytes_length p), List.take_of_length_le (by omega)])
        have hK5 : K ≤ 69999999990000 := by omega
        have Hnt := hide (ntp_back p (l.flatMap fieldBytes ++ (be 7 4 ++ be T 8)) hok hin)
        clear hown4 hW5 hb5 hC6 hn6 hown5 hKl hm6 hown6 hg6 hat6 hle
        refine (ntpDecode_ok A6 n6 K c6 _ w6 hr6 hK (by omega) (ntp_kind p _ hok)).mono ?_
        rintro e w7 ⟨A7, c7, rfl, hown7, hB7⟩
        rw [Hnt.out, hP]
        rw [Hsub.out] at hown7
        have hW7 := below_step hW6 hB7 hW6.size
        have hb7 := hb6.below' hB7
        have hX := (Below.refl w7.heap.size w7).alloc (Nat.le_refl _) (.cells #[.int .i64 p.leap, .int .i64 p.version, .int .i64 p.mode, .int .i64 p.stratum, .int .i64 p.poll, .int .i64 p.prec, .int .u32 p.d1, .int .u32 p.d2, .int .u32 p.id, .int .u64 p.t1, .int .u64 p.t2, .int .u64 p.t3, .int .u64 p.t4] 41)
        have hy8 : Blk (w7.alloc (.cells #[.int .i64 p.leap, .int .i64 p.version, .int .i64 p.mode, .int .i64 p.stratum, .int .i64 p.poll, .int .i64 p.prec, .int .u32 p.d1, .int .u32 p.d2, .int .u32 p.id, .int .u64 p.t1, .int .u64 p.t2, .int .u64 p.t3, .int .u64 p.t4] 41)) w7.heap.size 41 p.cells := Blk.new w7 41 p.cells
        have hb8 := hb7.alloc (.cells #[.int .i64 p.leap, .int .i64 p.version, .int .i64 p.mode, .int .i64 p.stratum, .int .i64 p.poll, .int .i64 p.prec, .int .u32 p.d1, .int .u32 p.d2, .int .u32 p.id, .int .u64 p.t1, .int .u64 p.t2, .int .u64 p.t3, .int .u64 p.t4] 41)
        have hr8 := (hown7.alloc (.cells #[.int .i64 p.leap, .int .i64 p.version, .int .i64 p.mode, .int .i64 p.stratum, .int .i64 p.poll, .int .i64 p.prec, .int .u32 p.d1, .int .u32 p.d2, .int .u32 p.id, .int .u64 p.t1, .int .u64 p.t2, .int .u64 p.t3, .int .u64 p.t4] 41)).rb
        have hW8 := below_step hW7 hX hW7.size
        obtain ⟨k0, k1, k2, k3, k4, k5, k6, k7, k8, k9, k10, k11, k12⟩ := blk13 hb8
        obtain ⟨y0, y1, y2, y3, y4, y5, y6, y7, y8, y9, y10, y11, y12⟩ := blk13 hy8
        have z0 := Hz0.out
        clear hW6 hb6 hr6 hown7 hB7 hW7 hb7 hX hy8 hb8
        go_wp2_with fail
        refine (parse_any A7 K c7 _ _ hr8 (by omega)).mono ?_
        rintro e w9 ⟨wa, D9, n9, d9, A9, m9, c9, rfl, hE9, hBa, hO9, hB9⟩
        rw [Hp.out] at hE9 hO9 ⊢
        have hWa := below_step hW8 hBa hW8.size
        have hW9 := below_step hWa hB9 hWa.size
        have hE9 := (hE9.below hB9).re
        have hO9 := hO9.rb
        obtain rfl : n9 = n := hE9.len.symm.trans hl.len
        obtain rfl : m9 = 12 := by rw [← hO9.len]; simp [be_length]
        have hl9 := hl.below hW9
        have Hl := hide hl.len
        have hcap9 := hE9.cap
        have hmax9 := hE9.max
        clear hr8 hBa hB9 hW8 hWa hl k0 k1 k2 k3 k4 k5 k6 k7 k8 k9 k10 k11 k12 y0 y1 y2 y3 y4 y5 y6 y7 y8 y9 y10 y11 y12 z0
        go_wp2
        go_loopw [85] (fun i wr => ∃ k : Nat, k ≤ n9 ∧ i = .int .i64 k ∧ ∃ q, wr = w9.drewN q) (fun i _ => n9 - (intOf i).toNat)
        case atStart => exact ⟨0, Nat.zero_le _, rfl, 0, rfl⟩
        case round =>
          obtain ⟨k, hk, rfl, q, rfl⟩ := hrel
          by_cases hlt : k < n9
          · obtain ⟨x, hxk⟩ := get_some (l := l) (k := k) (by have := Hl.out; omega)
            obtain ⟨b, o, rfl, hb, hkd, hc0, A1, m1, c1, hc1, hr1⟩ := hl9.at_ hxk
            obtain ⟨b', o', rfl, hb', _, hc0', A1', m1', c1', hc1', hr1'⟩ := hE9.at_ hxk
            have conv : ∀ q, (Go.convert 22 9 (.slice A1 m1 c1)).run Try.prog (w9.drewN q) = .ok (.string ⟨x.data.toArray⟩) (w9.drewN q) := fun q =>
              (RB.below hr1 (below_drewN _ q)).convert _ 5 _ Try.underlying22 Try.underlying5 Try.underlying9
            have conv' : ∀ q, (Go.convert 22 9 (.slice A1' m1' c1')).run Try.prog (w9.drewN q) = .ok (.string ⟨x.data.toArray⟩) (w9.drewN q) := fun q =>
              (RB.below hr1' (below_drewN _ q)).convert _ 5 _ Try.underlying22 Try.underlying5 Try.underlying9
            go_wp2
            go_quiet (fail)
            go_wp2
            exact ⟨⟨k + 1, by omega, by go_num, _, rfl⟩, by simp [intOf]; omega⟩
          · obtain rfl : n9 = k := by omega
            have hBq := below_drewN w9 q
            go_wp2_with fail
            refine (split_any A9 c9 _ _ (hO9.below hBq)).mono ?_
            rintro e w10 ⟨rfl, hB10⟩
            rw [Hs.out.1, Hs.out.2]
            have hWq := below_step hW9 hBq hW9.size
            go_wp2
            go_ret
            exact ⟨rfl, below_step hWq hB10 hWq.size⟩
      · have hE0 : (appendErr l != 0) = true := by simpa using he
        have He := hide he
        clear he
        go_wp2_with fail
        refine (append_err A1 48 c1 D n d l w2 (hl.below hW2) He.out).mono ?_
        rintro e w3 ⟨rfl, hB3⟩
        have hW3 := below_step hW2 hB3 hW2.size
        clear hb2 hown2 k0 k1 k2 k3 k4 k5 k6 k7 k8 k9 k10 k11 k12 hv1
        go_wp2_with fail
        refine (fieldsError_any D n d l w3 (hl.below hW3)).mono ?_
        rintro e w4 ⟨rfl, hB4⟩
        have hW4 := below_step hW3 hB4 hW3.size
        generalize appendErr l = E at *
        go_wp2_with (first
          | (refine make_bytes rfl (.const (.int .i64 12)) rfl 12 _ rfl rfl (by omega) w4.heap.size w4 (Below.refl _ _) (Nat.le_refl _) ?_; intro w5 hb5 hB5 _ hz5)
          | (go_at_call 11; refine (check_any 1 _ 12 12 _ (by omega)).mono ?_; rintro e w6 ⟨rfl, hB6⟩; rw [show extCheck 1 12 = 0 from rfl]))
        go_ret
        have hW5 := below_step hW4 hB5 hW4.size
        exact ⟨rfl, below_step hW5 hB6 hW5.size⟩
end Go.Proofs.Ytgihbhplmhpciaa
