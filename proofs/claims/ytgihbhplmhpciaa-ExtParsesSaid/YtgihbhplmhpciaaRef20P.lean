/- The reference of layer 20: Parse. -/
import Derived.Test.YtgihbhplmhpciaaRef20
import Derived.Test.YtgihbhplmhpciaaParse
namespace Go.Proofs.Ytgihbhplmhpciaa
open Go.RowKit
set_option linter.unusedVariables false

theorem sub_drop2 (bs : List UInt8) (p a k : Nat) : sub (bs.drop p) a k = sub bs (p + a) k := by simp [sub, List.drop_drop]

set_option maxRecDepth 100000 in
set_option maxHeartbeats 1000000 in
theorem parse20_any (A : Option Addr) (m c : Nat) (bs : List UInt8) (w : World) (h : RB w A m c bs) (hm : m ≤ 70000000000000) :
    Calls Try.prog 17 #[.slice A m c] w (ParseEnd w (parse bs)) := by
  have H0 := hide (show parseFrom (bs.length + 1) [] bs = parse bs from rfl)
  generalize parse bs = R at *
  have Hm := hide h.len
  go_enter Try.func17, Try.ntmps17
  go_wp2
  go_loopw [5, 6] (fun u i wr => ∃ p D n d acc, i = .int .i64 (p : Nat) ∧ u = .slice D n d ∧ p ≤ m ∧ OwnE wr w.heap.size D n d acc ∧ n ≤ 16 ∧ Below w.heap.size w wr ∧ Hid (∃ f, m - p < f ∧ parseFrom f acc (bs.drop p) = R))
    (fun _ i _ => m - (intOf i).toNat)
  case atStart => exact ⟨0, none, 0, 0, [], rfl, rfl, by omega, OwnE.nil _ _, by omega, Below.refl _ _, ⟨bs.length + 1, by have := Hm.out; omega, H0.out⟩⟩
  case round =>
    clear H0
    obtain ⟨p, D, n, d, acc, rfl, rfl, hpm, hown, hn, hB, HR⟩ := hrel
    have hcap := h.cap
    have hmax := h.max
    have hr : ∃ f, parseFrom (f + 1) acc (bs.drop p) = R ∧ m - p < f + 1 := by
      obtain ⟨f, h1, h2⟩ := HR.out
      obtain ⟨f, rfl⟩ : ∃ k, f = k + 1 := ⟨f - 1, by omega⟩
      exact ⟨f, h2, h1⟩
    clear HR
    obtain ⟨f, hf, hlt⟩ := hr
    have Hf := hide hf
    have Hlt := hide hlt
    have Hl := hide (show (bs.drop p).length = m - p by rw [List.length_drop, Hm.out])
    generalize hrr : bs.drop p = r at Hf Hl
    have Hrr := hide hrr
    clear hf hlt hrr
    by_cases c0 : p = m
    · subst c0
      have Hf := hide ((parseFrom_0 f acc r (by have := Hl.out; omega)).symm.trans Hf.out)
      go_wp2
      go_ret3
      rw [← Hf.out]
      exact ⟨wr, D, n, d, none, 0, 0, rfl, hown, hB, OwnB.nil _ _, Below.refl _ _⟩
    have c0' : p < m := by omega
    have hpp : ¬ m < p := by omega
    obtain ⟨b, o, rfl, hbo, _⟩ := h.cells (by omega)
    by_cases c12 : m = p + 12
    · have hm12 : ((m : Int) - p == 12) = true := by simp; omega
      have Hf := hide ((parseFrom_12 f acc r (by have := Hl.out; omega)).symm.trans Hf.out)
      have hrest := (h.below hB).sub_ p (m - p) (by omega) (some ⟨b, o + p, none⟩) (c - p) (fun hp b' o' e => by injection e with e; injection e with e1 e2; subst e1 e2; rfl) (by omega) (by omega)
      have Hrest := hide (show sub bs p (m - p) = r by have := sub_drop bs p; rw [Hm.out] at this; rw [this, Hrr.out])
      have hcp : ¬ c = p := by omega
      have Hc12 := hide c12
      clear c12
      go_wp2_with (refine append_bytes rfl (.tmp 24) (.tmp 27) rfl _ 0 0 [] _ (m - p) (c - p) _ rfl rfl wr.heap.size wr (OwnB.empty wr wr.heap.size (Nat.le_refl _)) (hrest.alloc _) (by omega) ((Below.refl _ _).alloc (Nat.le_refl _) _) (by simp) ?_; intro A1 n1 c1 w1 hown1 hn1 hB1 _ _)
      go_ret3
      rw [← Hf.out]
      exact ⟨wr, D, n, d, A1, n1, c1, rfl, hown, hB, hown1.cast Hrest.out, hB1⟩
    have hm12 : ((m : Int) - p == 12) = false := by simp; omega
    by_cases c16 : m < p + 16
    · have c16' : (m : Int) - p < 16 := by omega
      have Hf := hide ((parseFrom_16 f acc r (by have := Hl.out; omega) (by have := Hl.out; omega) (by have := Hl.out; omega)).symm.trans Hf.out)
      go_wp2
      go_ret3
      rw [← Hf.out]
      exact ParseEnd.fail hB rfl
    have c16' : ¬ (m : Int) - p < 16 := by omega
    have hN := ofBe_le (l := sub r 2 2) (k := 2) (by rw [sub_length r 2 2 (by have := Hl.out; omega)]; omega)
    have hK := ofBe_le (l := sub r 0 2) (k := 2) (by rw [sub_length r 0 2 (by have := Hl.out; omega)]; omega)
    generalize hNN : ofBe (sub r 2 2) = N at hN
    have HNN := hide hNN
    clear hNN
    generalize hKK : ofBe (sub r 0 2) = K at hK
    have HKK := hide hKK
    clear hKK
    have Htp := hide (show sub bs (p : Int).toNat (Int.toNat 2) = sub r 0 2 by rw [← Hrr.out, sub_drop2]; rfl)
    have Htq := hide (show sub bs ((p : Int) + 2).toNat (Int.toNat 2) = sub r 2 2 by rw [← Hrr.out, sub_drop2]; rfl)
    have h1616 : 16 ≤ r.length := by have := Hl.out; omega
    by_cases cf : N < 16 ∨ N % 4 ≠ 0
    · have Hf := hide ((parseFrom_form f acc r h1616 (by rw [HNN.out]; exact cf)).symm.trans Hf.out)
      by_cases cf1 : N < 16
      all_goals
        have cf2 : ¬ N < 16 → ((N : Int) % 4 != 0) = true := by
          intro hh
          simp
          omega
        try have cf3 := cf2 cf1
        clear cf cf2
        go_wp2_with fail
        refine (get02_any _ m c bs _ _ _ (h.below hB) (by omega) (by omega) (by omega) (by omega)).mono ?_
        rintro e w' ⟨rfl, rfl⟩
        rw [Htp.out, HKK.out]
        go_wp2_with fail
        refine (get02_any _ m c bs _ _ _ (h.below hB) (by omega) (by omega) (by omega) (by omega)).mono ?_
        rintro e w' ⟨rfl, rfl⟩
        rw [Htq.out, HNN.out]
        go_wp2
        go_ret3
        rw [← Hf.out]
        exact ParseEnd.fail hB rfl
    have cf1 : ¬ N < 16 := fun hh => cf (.inl hh)
    have cf3 : ((N : Int) % 4 != 0) = false := by
      simp
      omega
    have Hcf := hide cf
    clear cf
    by_cases cs : m < p + N
    · have cs' : (m : Int) - p < (N : Int) := by omega
      have Hf := hide ((parseFrom_short f acc r h1616 (by rw [HNN.out]; exact Hcf.out) (by rw [HNN.out, Hl.out]; omega)).symm.trans Hf.out)
      go_wp2_with fail
      refine (get02_any _ m c bs _ _ _ (h.below hB) (by omega) (by omega) (by omega) (by omega)).mono ?_
      rintro e w' ⟨rfl, rfl⟩
      rw [Htp.out, HKK.out]
      go_wp2_with fail
      refine (get02_any _ m c bs _ _ _ (h.below hB) (by omega) (by omega) (by omega) (by omega)).mono ?_
      rintro e w' ⟨rfl, rfl⟩
      rw [Htq.out, HNN.out]
      go_wp2
      go_ret3
      rw [← Hf.out]
      exact ParseEnd.fail hB rfl
    have cs' : ¬ (m : Int) - p < (N : Int) := by omega
    by_cases cl : n = 16 ∨ 256 < N - 4
    · have Hf := hide ((parseFrom_long f acc r h1616 (by rw [HNN.out]; exact Hcf.out) (by rw [HNN.out, Hl.out]; omega) (by rw [HNN.out, hown.len]; exact cl)).symm.trans Hf.out)
      by_cases cl1 : n = 16
      all_goals
        have cl2 : ¬ n = 16 → ((n : Int) == 16) = false := by
          intro hh
          simp
          omega
        try have cl3 := cl2 cl1
        have cl4 : ¬ n = 16 → 256 < N - 4 := by omega
        try have cl5 := cl4 cl1
        clear cl cl2 cl4
        go_wp2_with fail
        refine (get02_any _ m c bs _ _ _ (h.below hB) (by omega) (by omega) (by omega) (by omega)).mono ?_
        rintro e w' ⟨rfl, rfl⟩
        rw [Htp.out, HKK.out]
        go_wp2_with fail
        refine (get02_any _ m c bs _ _ _ (h.below hB) (by omega) (by omega) (by omega) (by omega)).mono ?_
        rintro e w' ⟨rfl, rfl⟩
        rw [Htq.out, HNN.out]
        go_wp2
        go_ret3
        rw [← Hf.out]
        exact ParseEnd.fail hB rfl
    have Hf := hide ((parseFrom_next f acc r h1616 (by rw [HNN.out]; exact Hcf.out) (by rw [HNN.out, Hl.out]; omega) (by rw [HNN.out, hown.len]; exact cl)).symm.trans Hf.out)
    have cl1 : ((n : Int) == 16) = false := by simp; omega
    have cl2 : N - 4 ≤ 256 := by omega
    have cl3 : n < 16 := by omega
    clear cl
    have hKr : (-9223372036854775808 : Int) ≤ (K : Int) ∧ (K : Int) ≤ 9223372036854775807 := by omega
    have hsub := (h.below hB).sub_ (p + 4) (p + N - (p + 4)) (by omega) (some ⟨b, o + (p + 4), none⟩) (c - (p + 4)) (fun _ b' o' e => by injection e with e; injection e with e1 e2; subst e1 e2; rfl) (by omega) (by omega)
    go_wp2_with fail
    refine (get02_any _ m c bs _ _ _ (h.below hB) (by omega) (by omega) (by omega) (by omega)).mono ?_
    rintro e w' ⟨rfl, rfl⟩
    rw [Htp.out, HKK.out]
    go_wp2_with fail
    refine (get02_any _ m c bs _ _ _ (h.below hB) (by omega) (by omega) (by omega) (by omega)).mono ?_
    rintro e w' ⟨rfl, rfl⟩
    rw [Htq.out, HNN.out]
    have Hs4 := hide (show sub bs (p + 4) (p + N - (p + 4)) = sub r 4 (N - 4) by rw [← Hrr.out, sub_drop2, show p + N - (p + 4) = N - 4 by omega])
    have Hdr := hide (show bs.drop (p + N) = r.drop N by rw [← Hrr.out, List.drop_drop])
    go_wp2_with (first
      | (refine append_bytes rfl (.tmp 67) (.tmp 74) rfl _ 0 0 [] _ (p + N - (p + 4)) (c - (p + 4)) _ rfl rfl w.heap.size w (OwnB.empty wr w.heap.size hB.size) (hsub.alloc _) (by omega) (hB.alloc hB.size _) (by simp; have := hB.size; omega) ?_
         intro A1 n1 c1 w1 hown1 hn1 hB1 hg1 _
         have hown' : OwnE w1 w.heap.size D n d acc := hown.below ((Below.refl _ wr).alloc (Nat.le_refl _) _ |>.grown hg1 (by simp) (by simp [Value.ownBlock])))
      | (refine append_ext rfl (.tmp 64) (.tmp 77) rfl D n d acc w1.heap.size K A1 n1 c1 (sub r 4 (N - 4)) rfl rfl w.heap.size w (Blk.new w1 _ _) (hown'.below ((Below.refl _ _).alloc (Nat.le_refl _) _)) ((hown1.alloc _).cast (by rw [List.nil_append]; exact Hs4.out)) hKr (by omega) (hB1.alloc hB1.size _) (by simp; have := hB1.size; omega) ?_
         intro D2 n2 d2 w2 hown2 hn2 hB2 _))
    refine ⟨⟨p + N, D2, n2, d2, _, ret_num (by omega), rfl, by omega, hown2, by have := hn2.out; omega, hB2, hide ⟨f, ?_, ?_⟩⟩, by simp [intOf]; omega⟩
    · have := Hlt.out
      omega
    · have := Hf.out
      rw [HKK.out, HNN.out] at this
      rw [Hdr.out]
      exact this
end Go.Proofs.Ytgihbhplmhpciaa
