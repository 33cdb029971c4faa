/- ext.Parse computes the specified fields, authenticator and error. -/
import Derived.Test.YtgihbhplmhpciaaExt
namespace Go.Proofs.Ytgihbhplmhpciaa
open Go.RowKit
set_option linter.unusedVariables false

/-- What Parse comes to: fields, authenticator, error. -/
structure Parsed where
  l : List Ext
  auth : List UInt8
  err : Int

/-- Parse from a place on, behind the fields l. -/
def parseFrom : Nat → List Ext → List UInt8 → Parsed
  | 0, _, _ => ⟨[], [], 0⟩
  | f + 1, l, b =>
    if b.length = 0 then ⟨l, [], 0⟩ else
    if b.length = 12 then ⟨l, b, 0⟩ else
    if b.length < 16 then ⟨[], [], 5⟩ else
    if ofBe (sub b 2 2) < 16 ∨ ofBe (sub b 2 2) % 4 ≠ 0 then ⟨[], [], 7⟩ else
    if b.length < ofBe (sub b 2 2) then ⟨[], [], 5⟩ else
    if l.length = 16 ∨ 256 < ofBe (sub b 2 2) - 4 then ⟨[], [], 6⟩ else
    parseFrom f (l ++ [⟨ofBe (sub b 0 2), sub b 4 (ofBe (sub b 2 2) - 4)⟩]) (b.drop (ofBe (sub b 2 2)))
def parse (b : List UInt8) : Parsed := parseFrom (b.length + 1) [] b

theorem parseFrom_0 (f : Nat) (l : List Ext) (b : List UInt8) (h : b.length = 0) : parseFrom (f + 1) l b = ⟨l, [], 0⟩ := by rw [parseFrom, if_pos h]
theorem parseFrom_12 (f : Nat) (l : List Ext) (b : List UInt8) (h : b.length = 12) : parseFrom (f + 1) l b = ⟨l, b, 0⟩ := by rw [parseFrom, if_neg (by omega), if_pos h]
theorem parseFrom_16 (f : Nat) (l : List Ext) (b : List UInt8) (h0 : b.length ≠ 0) (h12 : b.length ≠ 12) (h : b.length < 16) : parseFrom (f + 1) l b = ⟨[], [], 5⟩ := by rw [parseFrom, if_neg h0, if_neg h12, if_pos h]
theorem parseFrom_form (f : Nat) (l : List Ext) (b : List UInt8) (h : 16 ≤ b.length) (hn : ofBe (sub b 2 2) < 16 ∨ ofBe (sub b 2 2) % 4 ≠ 0) : parseFrom (f + 1) l b = ⟨[], [], 7⟩ := by
  rw [parseFrom, if_neg (by omega), if_neg (by omega), if_neg (by omega), if_pos hn]
theorem parseFrom_short (f : Nat) (l : List Ext) (b : List UInt8) (h : 16 ≤ b.length) (hn : ¬ (ofBe (sub b 2 2) < 16 ∨ ofBe (sub b 2 2) % 4 ≠ 0)) (hs : b.length < ofBe (sub b 2 2)) : parseFrom (f + 1) l b = ⟨[], [], 5⟩ := by
  rw [parseFrom, if_neg (by omega), if_neg (by omega), if_neg (by omega), if_neg hn, if_pos hs]
theorem parseFrom_long (f : Nat) (l : List Ext) (b : List UInt8) (h : 16 ≤ b.length) (hn : ¬ (ofBe (sub b 2 2) < 16 ∨ ofBe (sub b 2 2) % 4 ≠ 0)) (hs : ¬ b.length < ofBe (sub b 2 2)) (hl : l.length = 16 ∨ 256 < ofBe (sub b 2 2) - 4) : parseFrom (f + 1) l b = ⟨[], [], 6⟩ := by
  rw [parseFrom, if_neg (by omega), if_neg (by omega), if_neg (by omega), if_neg hn, if_neg hs, if_pos hl]
theorem parseFrom_next (f : Nat) (l : List Ext) (b : List UInt8) (h : 16 ≤ b.length) (hn : ¬ (ofBe (sub b 2 2) < 16 ∨ ofBe (sub b 2 2) % 4 ≠ 0)) (hs : ¬ b.length < ofBe (sub b 2 2)) (hl : ¬ (l.length = 16 ∨ 256 < ofBe (sub b 2 2) - 4)) :
    parseFrom (f + 1) l b = parseFrom f (l ++ [⟨ofBe (sub b 0 2), sub b 4 (ofBe (sub b 2 2) - 4)⟩]) (b.drop (ofBe (sub b 2 2))) := by
  rw [parseFrom, if_neg (by omega), if_neg (by omega), if_neg (by omega), if_neg hn, if_neg hs, if_neg hl]

/-- How Parse ends: the fields, then, in newer blocks, the authenticator. -/
def ParseEnd (w : World) (r : Parsed) (e : Ending) (w' : World) : Prop :=
  ∃ w1 D n d A m c, e = .returned (.tuple #[.slice D n d, .slice A m c, .int .i64 r.err]) ∧ OwnE w1 w.heap.size D n d r.l ∧ Below w.heap.size w w1 ∧ OwnB w' w1.heap.size A m c r.auth ∧ Below w1.heap.size w1 w'

theorem OwnB.nil (w : World) (base : Nat) : OwnB w base none 0 0 [] := World.ownsRow_nil _ _ _ _

theorem ParseEnd.fail {w w' : World} {r : Parsed} {err : Int} (hb : Below w.heap.size w w') (h : r = ⟨[], [], err⟩) :
    ParseEnd w r (.returned (.tuple #[.slice none 0 0, .slice none 0 0, .int .i64 err])) w' := by
  subst h
  exact ⟨w', none, 0, 0, none, 0, 0, rfl, OwnE.nil _ _, hb, OwnB.nil _ _, Below.refl _ _⟩

theorem RB.sub_ {w : World} {A : Option Addr} {m c : Nat} {r : List UInt8} (h : RB w A m c r) (a k : Nat) (hk : a + k ≤ m) (A' : Option Addr) (c' : Nat) (hA : 0 < k → ∀ b o, A = some ⟨b, o, none⟩ → A' = some ⟨b, o + a, none⟩) (hc : k ≤ c') (hc' : c' ≤ c) : RB w A' k c' (sub r a k) := by
  have hl := h.len
  have hm := h.max
  refine ⟨sub_length r a k (by omega), hc, by omega, fun hp => ?_⟩
  obtain ⟨b, o, rfl, hlt, hcell⟩ := h.cells (by omega)
  refine ⟨b, o + a, hA hp b o rfl, hlt, fun j u hu => ?_⟩
  rw [Nat.add_assoc]
  refine hcell (a + j) u ?_
  have hj : j < k := by
    have := (List.getElem?_eq_some_iff.1 hu).1
    rwa [BV_length, sub_length r a k (by omega)] at this
  rw [← hu, BV_get, BV_get, sub, List.getElem?_take, if_pos hj, List.getElem?_drop]

theorem sub_drop (r : List UInt8) (a : Nat) : sub r a (r.length - a) = r.drop a := by
  unfold sub
  exact List.take_of_length_le (by simp)

set_option maxHeartbeats 1000000 in
theorem parse_any (A : Option Addr) (m c : Nat) (bs : List UInt8) (w : World) (h : RB w A m c bs) (hm : m ≤ 70000000000000) :
    Calls Try.prog 16 #[.slice A m c] w (ParseEnd w (parse bs)) := by
  have H0 := hide (show parseFrom (bs.length + 1) [] bs = parse bs from rfl)
  generalize parse bs = R at *
  go_enter Try.func16, Try.ntmps16
  go_wp2
  go_loopw [0, 5] (fun v u wr => ∃ A m c r D n d acc, v = .slice A m c ∧ u = .slice D n d ∧ RB w A m c r ∧ m ≤ 70000000000000 ∧ OwnE wr w.heap.size D n d acc ∧ n ≤ 16 ∧ Below w.heap.size w wr ∧ Hid (∃ f, r.length < f ∧ parseFrom f acc r = R))
    (fun v _ _ => match v with | .slice _ m _ => m | _ => 0)
  case atStart => exact ⟨A, m, c, bs, none, 0, 0, [], rfl, rfl, h, hm, OwnE.nil _ _, by omega, Below.refl _ _, ⟨_, Nat.lt_succ_self _, H0.out⟩⟩
  case round =>
    clear h hm H0
    obtain ⟨A, m, c, r, D, n, d, acc, rfl, rfl, h, hm, hown, hn, hB, HR⟩ := hrel
    have Hl := hide h.len
    have hcap := h.cap
    have hmax := h.max
    have hr : ∃ f, parseFrom (f + 1) acc r = R ∧ r.length < f + 1 := by
      obtain ⟨f, h1, h2⟩ := HR.out
      obtain ⟨f, rfl⟩ : ∃ k, f = k + 1 := ⟨f - 1, by omega⟩
      exact ⟨f, h2, h1⟩
    clear HR
    obtain ⟨f, hf, hlt⟩ := hr
    have Hf := hide hf
    have Hlt := hide hlt
    clear hf hlt
    by_cases c0 : m = 0
    · subst c0
      have Hf := hide ((parseFrom_0 f acc r Hl.out).symm.trans Hf.out)
      go_wp2
      go_ret3
      rw [← Hf.out]
      exact ⟨wr, D, n, d, none, 0, 0, rfl, hown, hB, OwnB.nil _ _, Below.refl _ _⟩
    by_cases c12 : m = 12
    · subst c12
      have Hf := hide ((parseFrom_12 f acc r Hl.out).symm.trans Hf.out)
      go_wp2_with (refine append_bytes rfl (.tmp 19) (.tmp 20) rfl _ 0 0 [] A 12 c r rfl rfl wr.heap.size wr (OwnB.empty wr wr.heap.size (Nat.le_refl _)) ((h.below hB).alloc _) (by omega) ((Below.refl _ _).alloc (Nat.le_refl _) _) (by simp) ?_; intro A1 n1 c1 w1 hown1 hn1 hB1 _ _)
      go_ret3
      rw [← Hf.out]
      exact ⟨wr, D, n, d, A1, n1, c1, rfl, hown, hB, hown1.cast rfl, hB1⟩
    have hm0 : ((m : Int) == 0) = false := by simp; omega
    have hm12 : ((m : Int) == 12) = false := by simp; omega
    by_cases c16 : m < 16
    · have Hf := hide ((parseFrom_16 f acc r (by have := Hl.out; omega) (by have := Hl.out; omega) (by have := Hl.out; omega)).symm.trans Hf.out)
      go_wp2
      go_ret3
      rw [← Hf.out]
      exact ParseEnd.fail hB rfl
    have hN := ofBe_le (l := sub r 2 2) (k := 2) (by rw [sub_length r 2 2 (by have := Hl.out; omega)]; omega)
    have hK := ofBe_le (l := sub r 0 2) (k := 2) (by rw [sub_length r 0 2 (by have := Hl.out; omega)]; omega)
    have HN := hide (show ofBe (sub r 2 2) = ofBe (sub r 2 2) from rfl)
    generalize hNN : ofBe (sub r 2 2) = N at hN HN
    have HNN := hide hNN
    clear hNN
    generalize hKK : ofBe (sub r 0 2) = K at hK
    have HKK := hide hKK
    clear hKK
    have Ht0 := hide (show Int.toNat 0 = 0 from rfl)
    have Ht2 := hide (show Int.toNat 2 = 2 from rfl)
    obtain ⟨b, o, rfl, hbo, _⟩ := h.cells (by omega)
    clear hm0 hm12
    have hm0 : ((m : Int) == 0) = false := by simp; omega
    have hm12 : ((m : Int) == 12) = false := by simp; omega
    have h1616 : 16 ≤ r.length := by have := Hl.out; omega
    by_cases cf : N < 16 ∨ N % 4 ≠ 0
    · have Hf := hide ((parseFrom_form f acc r h1616 (by rw [HNN.out]; exact cf)).symm.trans Hf.out)
      by_cases cf1 : N < 16
      all_goals
        have cf2 : ¬ N < 16 → ((N : Int) % 4 != 0) = true := by
          intro hh
          simp
          omega
        try have cf3 := cf2 cf1
        clear cf cf2
        go_wp2_with fail
        refine (get_any _ m c r _ _ _ (h.below hB) (by omega) (by omega) (by omega) (by omega)).mono ?_
        rintro e w' ⟨rfl, rfl⟩
        rw [Ht0.out, Ht2.out, HKK.out]
        go_wp2_with fail
        refine (get_any _ m c r _ _ _ (h.below hB) (by omega) (by omega) (by omega) (by omega)).mono ?_
        rintro e w' ⟨rfl, rfl⟩
        rw [Ht2.out, HNN.out]
        go_wp2
        go_ret3
        rw [← Hf.out]
        exact ParseEnd.fail hB rfl
    have cf1 : ¬ N < 16 := fun hh => cf (.inl hh)
    have cf3 : ((N : Int) % 4 != 0) = false := by
      simp
      omega
    have Hcf := hide cf
    clear cf
    by_cases cs : m < N
    · have Hf := hide ((parseFrom_short f acc r h1616 (by rw [HNN.out]; exact Hcf.out) (by rw [HNN.out, Hl.out]; exact cs)).symm.trans Hf.out)
      go_wp2_with fail
      refine (get_any _ m c r _ _ _ (h.below hB) (by omega) (by omega) (by omega) (by omega)).mono ?_
      rintro e w' ⟨rfl, rfl⟩
      rw [Ht0.out, Ht2.out, HKK.out]
      go_wp2_with fail
      refine (get_any _ m c r _ _ _ (h.below hB) (by omega) (by omega) (by omega) (by omega)).mono ?_
      rintro e w' ⟨rfl, rfl⟩
      rw [Ht2.out, HNN.out]
      go_wp2
      go_ret3
      rw [← Hf.out]
      exact ParseEnd.fail hB rfl
    by_cases cl : n = 16 ∨ 256 < N - 4
    · have Hf := hide ((parseFrom_long f acc r h1616 (by rw [HNN.out]; exact Hcf.out) (by rw [HNN.out, Hl.out]; exact cs) (by rw [HNN.out, hown.len]; exact cl)).symm.trans Hf.out)
      by_cases cl1 : n = 16
      all_goals
        have cl2 : ¬ n = 16 → ((n : Int) == 16) = false := by
          intro hh
          simp
          omega
        try have cl3 := cl2 cl1
        have cl4 : ¬ n = 16 → 256 < N - 4 := by omega
        try have cl5 := cl4 cl1
        clear cl cl2 cl4
        go_wp2_with fail
        refine (get_any _ m c r _ _ _ (h.below hB) (by omega) (by omega) (by omega) (by omega)).mono ?_
        rintro e w' ⟨rfl, rfl⟩
        rw [Ht0.out, Ht2.out, HKK.out]
        go_wp2_with fail
        refine (get_any _ m c r _ _ _ (h.below hB) (by omega) (by omega) (by omega) (by omega)).mono ?_
        rintro e w' ⟨rfl, rfl⟩
        rw [Ht2.out, HNN.out]
        go_wp2
        go_ret3
        rw [← Hf.out]
        exact ParseEnd.fail hB rfl
    have Hf := hide ((parseFrom_next f acc r h1616 (by rw [HNN.out]; exact Hcf.out) (by rw [HNN.out, Hl.out]; exact cs) (by rw [HNN.out, hown.len]; exact cl)).symm.trans Hf.out)
    have cl1 : ((n : Int) == 16) = false := by simp; omega
    have cl2 : N - 4 ≤ 256 := by omega
    have cl3 : n < 16 := by omega
    clear cl
    go_wp2_with fail
    refine (get_any _ m c r _ _ _ (h.below hB) (by omega) (by omega) (by omega) (by omega)).mono ?_
    rintro e w' ⟨rfl, rfl⟩
    rw [Ht0.out, Ht2.out, HKK.out]
    go_wp2_with fail
    refine (get_any _ m c r _ _ _ (h.below hB) (by omega) (by omega) (by omega) (by omega)).mono ?_
    rintro e w' ⟨rfl, rfl⟩
    rw [Ht2.out, HNN.out]
    have hsub := (h.below hB).sub_ 4 (N - 4) (by omega) (some ⟨b, o + 4, none⟩) (N - 4) (fun _ b' o' e => by injection e with e; injection e with e1 e2; subst e1 e2; rfl) (Nat.le_refl _) (by omega)
    have hKr : (-9223372036854775808 : Int) ≤ (K : Int) ∧ (K : Int) ≤ 9223372036854775807 := by omega
    go_wp2_with (first
      | (refine append_bytes rfl (.tmp 66) (.tmp 67) rfl _ 0 0 [] _ (N - 4) (N - 4) _ rfl rfl w.heap.size w (OwnB.empty wr w.heap.size hB.size) (hsub.alloc _) (by omega) (hB.alloc hB.size _) (by simp; have := hB.size; omega) ?_
         intro A1 n1 c1 w1 hown1 hn1 hB1 hg1 _
         have hown' : OwnE w1 w.heap.size D n d acc := hown.below ((Below.refl _ wr).alloc (Nat.le_refl _) _ |>.grown hg1 (by simp) (by simp [Value.ownBlock])))
      | (refine append_ext rfl (.tmp 63) (.tmp 70) rfl D n d acc w1.heap.size K A1 n1 c1 (sub r 4 (N - 4)) rfl rfl w.heap.size w (Blk.new w1 _ _) (hown'.below ((Below.refl _ _).alloc (Nat.le_refl _) _)) ((hown1.alloc _).cast (by simp)) hKr (by omega) (hB1.alloc hB1.size _) (by simp; have := hB1.size; omega) ?_
         intro D2 n2 d2 w2 hown2 hn2 hB2 _))
    have hl := Hl.out
    have hrest := h.sub_ N (m - N) (by omega) (if c = N then some ⟨b, o, none⟩ else some ⟨b, o + N, none⟩) (c - N) (fun hp b' o' e => by injection e with e; injection e with e1 e2; subst e1 e2; rw [if_neg (by omega)]) (by omega) (by omega)
    rw [← hl, sub_drop r N] at hrest
    refine ⟨⟨_, m - N, c - N, r.drop N, D2, n2, d2, _, rfl, rfl, by rw [← hl]; exact hrest, by omega, hown2, by have := hn2.out; omega, hB2, hide ⟨f, ?_, ?_⟩⟩, by dsimp only; omega⟩
    · have := Hlt.out
      simp only [List.length_drop]
      omega
    · have := Hf.out
      rw [HKK.out, HNN.out] at this
      exact this
end Go.Proofs.Ytgihbhplmhpciaa
