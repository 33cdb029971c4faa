/- ExtOwns: the results share no memory with the arguments.
  SEATS: ext -/
import Derived.Test.YtgihbhplmhpciaaFind
import Derived.Test.YtgihbhplmhpciaaParse
import Derived.Test.YtgihbhplmhpciaaPlain20
import Derived.Test.YtgihbhplmhpciaaSame
import Derived.Test.YtgihbhplmhpciaaAwake20
namespace Go.Proofs.Ytgihbhplmhpciaa
open Go.RowKit
set_option linter.unusedVariables false

theorem xor_255 (x : UInt8) : bits .xor .u8 (x.toNat : Int) 255 = ((x ^^^ 255).toNat : Int) := xor_u8 x 255 (by omega)

theorem take_get' {cs : List Value} {bs : List UInt8} {n i : Nat} (ht : cs.take n = BV bs) (hi : i < bs.length) : cs[i]? = some (.int .u8 ((nth bs i).toNat : Int)) := by
  have h : (BV bs)[i]? = some (.int .u8 ((nth bs i).toNat : Int)) := by rw [BV_get, nth_get hi]; rfl
  rw [← ht, List.getElem?_take] at h
  split at h
  · exact h
  · cases h

theorem blk_ne {w : World} {g g' t t' : Nat} {cs cs' : List Value} (h : Blk w g t cs) (h' : Blk w g' t' cs') (ht : t ≠ t') : g ≠ g' := by
  rintro rfl
  unfold Blk at h h'
  rw [h] at h'
  injection h' with h'
  injection h' with _ h2
  exact ht h2

/-- Where the bytes of a slice that is written lie. -/
def Good (b2 b3 g : Nat) (A : Option Addr) (m c : Nat) : Prop := ∀ k, (Value.slice A m c).ownBlock = some k → (k < b2 ∨ b3 ≤ k) ∧ k ≠ g

structure OwnSt (wa w3 : World) (b2 g : Nat) (A1 : Option Addr) (m1 c1 : Nat) (A2 : Option Addr) (m2 c2 : Nat) (A3 : Option Addr) (m3 c3 : Nat) (W : World) : Prop where
  below : Below wa.heap.size wa W
  mid : ∀ k, b2 ≤ k → k < w3.heap.size → W.heap[k]? = w3.heap[k]?
  blk : Blk W g 22 [.slice A1 m1 c1, .slice A2 m2 c2, .slice A3 m3 c3]
  o1 : ∃ bs, OwnB W wa.heap.size A1 m1 c1 bs
  o2 : ∃ bs, OwnB W wa.heap.size A2 m2 c2 bs
  o3 : ∃ bs, OwnB W wa.heap.size A3 m3 c3 bs

theorem OwnSt.write {wa w3 W : World} {b2 g m1 c1 m2 c2 m3 c3 : Nat} {A1 A2 A3 : Option Addr} (h : OwnSt wa w3 b2 g A1 m1 c1 A2 m2 c2 A3 m3 c3 W) (gb i : Nat) (v : UInt8) (h1 : wa.heap.size ≤ gb) (h2 : (gb < b2 ∨ w3.heap.size ≤ gb) ∧ gb ≠ g) :
    OwnSt wa w3 b2 g A1 m1 c1 A2 m2 c2 A3 m3 c3 (W.setCell ⟨gb, i, none⟩ (.int .u8 (v.toNat : Int))) := by
  obtain ⟨bs1, q1⟩ := h.o1
  obtain ⟨bs2, q2⟩ := h.o2
  obtain ⟨bs3, q3⟩ := h.o3
  refine ⟨h.below.setCell (p := ⟨gb, i, none⟩) h1 _, fun k hk1 hk2 => ?_, h.blk.far (p := ⟨gb, i, none⟩) (fun e => h2.2 e.symm) _, own_write q1 gb i v, own_write q2 gb i v, own_write q3 gb i v⟩
  exact (Below.heap_setCell W ⟨gb, i, none⟩ _ k (by dsimp only; omega)).trans (h.mid k hk1 hk2)

/-- Fields of the call's own, whatever their data hold. -/
def OwnL (W : World) (base : Nat) (D : Option Addr) (n d : Nat) : Prop := ∃ xs, W.ownsRow base 27 2 (.slice D n d) n xs ∧
  ∀ j, j < n → ∃ k A m c bs, xs[j * 2]? = some (.int .i64 k) ∧ xs[j * 2 + 1]? = some (.slice A m c) ∧ OwnB W base A m c bs ∧ m ≤ 1000000

theorem OwnL.write {W : World} {base n d : Nat} {D : Option Addr} (h : OwnL W base D n d) {gb : Nat} {cs : List Value} (hb : Blk W gb 5 cs) (i : Nat) (v : UInt8) : OwnL (W.setCell ⟨gb, i, none⟩ (.int .u8 (v.toNat : Int))) base D n d := by
  obtain ⟨xs, h1, h2⟩ := h
  refine ⟨xs, ?_, fun j hj => ?_⟩
  · refine ⟨h1.1, ?_⟩
    rcases h1.2 with h0 | ⟨g, cap, cur, he, hbb, hh, r⟩
    · exact .inl h0
    · refine .inr ⟨g, cap, cur, he, hbb, ?_, r⟩
      have hne : g ≠ gb := by
        rintro rfl
        unfold Blk at hb
        rw [hh] at hb
        injection hb with hb
        injection hb with _ hb2
        exact absurd hb2 (by decide)
      exact (Below.heap_setCell W ⟨gb, i, none⟩ _ g hne).trans hh
  · obtain ⟨k, A, m, c, bs, k1, k2, k3, k4⟩ := h2 j hj
    obtain ⟨bs', h5⟩ := own_write k3 gb i v
    exact ⟨k, A, m, c, bs', k1, k2, h5, k4⟩

theorem OwnL.below {w W : World} {base n d : Nat} {D : Option Addr} (h : OwnL w base D n d) (hb : Below w.heap.size w W) : OwnL W base D n d := by
  obtain ⟨xs, h1, h2⟩ := h
  exact ⟨xs, own_below h1 hb, fun j hj => by
    obtain ⟨k, A, m, c, bs, k1, k2, k3, k4⟩ := h2 j hj
    exact ⟨k, A, m, c, bs, k1, k2, k3.below hb, k4⟩⟩

theorem OwnL.at_ {W : World} {base n d : Nat} {D : Option Addr} (h : OwnL W base D n d) {j : Nat} (hj : j < n) : ∃ g k A m c bs, D = some ⟨g, 0, none⟩ ∧ W.cell? ⟨g, j * 2, none⟩ = some (.int .i64 k) ∧ W.cell? ⟨g, j * 2 + 1, none⟩ = some (.slice A m c) ∧ OwnB W base A m c bs ∧ m ≤ 1000000 := by
  obtain ⟨xs, h1, h2⟩ := h
  obtain ⟨k, A, m, c, bs, k1, k2, k3, k4⟩ := h2 j hj
  rcases h1.2 with ⟨he, h0⟩ | ⟨g, cap, cur, he, hb, hh, hn, hc, hs, ht⟩
  · omega
  · injection he with e1 e2 e3
    subst e1
    have hcell := h1.cells (g := g) rfl
    refine ⟨g, k, A, m, c, bs, rfl, ?_, ?_, k3, k4⟩
    · have := hcell (j * 2) _ k1
      rw [Addr.add_lit] at this
      simpa using this
    · have := hcell (j * 2 + 1) _ k2
      rw [Addr.add_lit] at this
      simpa using this

theorem OwnE.loose {W : World} {base n d : Nat} {D : Option Addr} {l : List Ext} (h : OwnE W base D n d l) (hd : ∀ e ∈ l, e.data.length ≤ 1000000) : OwnL W base D n d := by
  have hl := h.len
  obtain ⟨xs, h1, h2⟩ := h
  refine ⟨xs, h1, fun j hj => ?_⟩
  obtain ⟨e, he⟩ := get_some (l := l) (k := j) (by omega)
  obtain ⟨_, k2, A, m, c, k3, k4⟩ := h2.get j e he
  have := hd e (List.mem_of_getElem? he)
  exact ⟨e.kind, A, m, c, e.data, k2, k3, k4, by rw [← k4.len]; exact this⟩

theorem findData_le {l : List Ext} {k : Int} {M : Nat} (h : ∀ e ∈ l, e.data.length ≤ M) : (findData l k).length ≤ M := by
  unfold findData
  split
  · rename_i e he
    exact h e (List.mem_of_find?_eq_some he)
  · exact Nat.zero_le _

set_option maxHeartbeats 4000000 in
theorem extOwns_any (A : Option Addr) (m c : Nat) (bs : List UInt8) (kind : Int) (w : World) (hr : RB w A m c bs) (hkd : -9223372036854775808 ≤ kind ∧ kind ≤ 9223372036854775807) :
    Calls Try.prog 7 #[.slice A m c, .int .i64 kind] w fun e w' => e = .returned (.bool true) ∧ Below w.heap.size w w' := by
  have hcap := hr.cap
  have hmax := hr.max
  by_cases h6 : 6000 < m
  · have h6' : (6000 : Int) < (m : Int) := by omega
    go_enter Try.func7, Try.ntmps7
    go_wp2_with (go_at_call 10; refine (awake20 _).mono ?_; rintro e w2 ⟨rfl, hB2⟩)
    go_ret
    exact ⟨rfl, hB2⟩
  have h6' : ¬ (6000 : Int) < (m : Int) := by omega
  go_enter Try.func7, Try.ntmps7
  go_wp2_with fail
  refine (clone_all A m c bs w hr (by omega)).mono ?_
  rintro e w1 ⟨A1, n1, c1, rfl, hold, hB1⟩
  have hr1 := hr.below hB1
  go_wp2_with fail
  refine (parse_any A m c bs w1 hr1 (by omega)).mono ?_
  rintro e w2 ⟨wa, D, n, d, Aa, ma, ca, rfl, hE, hBa, hOa, hB2⟩
  have hC1 : Below w1.heap.size w1 w2 := below_step hBa hB2 hBa.size
  have hW2 := below_step hB1 hC1 hB1.size
  have Hw := hide (fun h => parse_writes bs h)
  by_cases he : (parse bs).err = 0
  · rw [he]
    have hOk := (Hw.out he).1
    obtain ⟨l, hlE⟩ : ∃ l, l = (parse bs).l := ⟨_, rfl⟩
    have hd256 : ∀ e ∈ l, e.data.length ≤ 1000000 := by
      intro e hm
      rw [hlE] at hm
      obtain ⟨k, hk⟩ := List.mem_iff_getElem?.1 hm
      have h1 := ok_of (append_zero hOk).2 hk
      have h2 := check_zero h1
      omega
    rw [← hlE] at hE hOk
    have hauth : ma ≤ 6000 := by
      have h1 := hOa.len
      have h2 := congrArg List.length (Hw.out he).2
      have h3 := hr.len
      rw [List.length_append] at h2
      omega
    have Hflat := hide (flat_le l (append_zero hOk).2)
    have Hlen16 := hide (append_zero hOk).1
    have HnL := hide hE.len
    have Hok := hide hOk
    have Hd := hide hd256
    have HlE := hide hlE
    clear Hw hOk hd256 hlE
    go_wp2_with fail
    refine (parse_any A m c bs w2 (hr.below hW2) (by omega)).mono ?_
    rintro e w3 ⟨wb, D3, n3, d3, Ab, mb, cb, rfl, hE3, hBb, hOb, hB3⟩
    rw [he, ← HlE.out] at *
    have hC3 : Below w2.heap.size w2 w3 := below_step hBb hB3 hBb.size
    have hW3 := below_step hW2 hC3 hW2.size
    have hE3' := hE3.below hB3
    obtain rfl : n3 = n := hE3.len.symm.trans hE.len
    have hEw3 := (hE.below hB2).below hC3
    go_wp2_with fail
    refine (find_any D n3 d l kind w3 hEw3.re Hd.out).mono ?_
    rintro e w4 ⟨A4, m4, c4, b4, rfl, hX, hB4⟩
    have hW4 := below_step hW3 hB4 hW3.size
    have hm4 : m4 ≤ 1000000 := by
      rw [← hX.len]
      exact findData_le Hd.out
    go_wp2_with fail
    refine (append_ok A m c bs D n3 d l w4 (hr.below hW4) (hEw3.below hB4).re (by omega) Hok.out).mono ?_
    rintro e w5 ⟨A5, n5, c5, rfl, hY, hB5⟩
    have hW5 := below_step hW4 hB5 hW4.size
    have hn5 : n5 ≤ 20000 := by
      have h1 := hY.len
      have h2 := Hflat.out
      have h3 := Hlen16.out
      have h4 := hr.len
      rw [List.length_append] at h1
      omega
    have HG := hide (show Good w2.heap.size w3.heap.size w5.heap.size Aa ma ca ∧ Good w2.heap.size w3.heap.size w5.heap.size A4 m4 c4 ∧ Good w2.heap.size w3.heap.size w5.heap.size A5 n5 c5 by
      have s3 := hC3.size
      have s4 := hB4.size
      have s5 := hB5.size
      refine ⟨fun k hk => ?_, fun k hk => ?_, fun k hk => ?_⟩
      · have := World.ownsRow.lt hOa k hk
        omega
      · have := World.ownsRow.lt hX k hk
        omega
      · have := World.ownsRow.lt hY k hk
        omega)
    have hZ := (Below.refl w5.heap.size w5).alloc (Nat.le_refl _) (.cells #[.slice Aa ma ca, .slice A4 m4 c4, .slice A5 n5 c5] 22)
    have hSt : OwnSt wa w3 w2.heap.size w5.heap.size Aa ma ca A4 m4 c4 A5 n5 c5 (w5.alloc (.cells #[.slice Aa ma ca, .slice A4 m4 c4, .slice A5 n5 c5] 22)) := by
      have hD := below_step (below_step hB4 hB5 hB4.size) hZ (below_step hB4 hB5 hB4.size).size
      have s2 := hB2.size
      have s3 := hC3.size
      have s4 := hB4.size
      refine ⟨below_step (below_step hB2 hC3 hB2.size) hD (by omega), fun k hk1 hk2 => hD.block k hk2, Blk.new w5 _ [.slice Aa ma ca, .slice A4 m4 c4, .slice A5 n5 c5], ?_, ?_, ?_⟩
      · exact ⟨_, (hOa.below hC3).below hD⟩
      · exact ⟨_, ((hX.below hB5).below hZ).mono (by omega)⟩
      · exact ⟨_, (hY.below hZ).mono (by omega)⟩
    have hWz := below_step hW5 hZ hW5.size
    clear hZ hX hY hB4 hB5 hW4 hW5 hOa hOb hEw3
    go_wp2
    go_loopw [65] (fun iv wr => ∃ iN : Nat, iN ≤ 3 ∧ iv = .int .i64 iN ∧ OwnSt wa w3 w2.heap.size w5.heap.size Aa ma ca A4 m4 c4 A5 n5 c5 wr) (fun iv _ => 3 - (intOf iv).toNat)
    case atStart => exact ⟨0, by omega, rfl, hSt⟩
    case round =>
      clear hSt hWz
      obtain ⟨iN, hi, rfl, hSt⟩ := hrel
      by_cases hlt : iN < 3
      · have hcell0 := hSt.blk.cell 0
        have hcell1 := hSt.blk.cell 1
        have hcell2 := hSt.blk.cell 2
        simp only [List.getElem?_cons_zero, List.getElem?_cons_succ] at hcell0 hcell1 hcell2
        rcases (show iN = 0 ∨ iN = 1 ∨ iN = 2 by omega) with rfl | rfl | rfl
        · go_wp2
          go_loopw [71] (fun jv wr => ∃ j : Nat, j ≤ ma ∧ jv = .int .i64 j ∧ OwnSt wa w3 w2.heap.size w5.heap.size Aa ma ca A4 m4 c4 A5 n5 c5 wr) (fun jv _ => ma - (intOf jv).toNat)
          case atStart => exact ⟨0, Nat.zero_le _, rfl, hSt⟩
          case round =>
            clear hSt hcell0 hcell1 hcell2
            obtain ⟨j, hj, rfl, hSt⟩ := hrel
            by_cases hjl : j < ma
            · have hjI : (j : Int) < (ma : Int) := by omega
              obtain ⟨bz, hown⟩ := hSt.o1
              obtain ⟨gb, cz, hAz, hgb, hblk, htk⟩ := ownB_blk hown (by omega)
              have hgood := HG.out.1 gb (by rw [hAz]; rfl)
              subst hAz
              have hc0 := hblk.cell j
              rw [take_get' htk (by rw [hown.len]; exact hjl)] at hc0
              have hf0 := hblk.frozen j
              have hs' := hSt.write gb j (nth bz j ^^^ 255) hgb hgood
              go_wp2
              rw [xor_255]
              exact ⟨⟨j + 1, by omega, by go_num, hs'⟩, by simp [intOf]; omega⟩
            · obtain rfl : j = ma := by omega
              go_wp2
              exact ⟨⟨0 + 1, by omega, by go_num, hSt⟩, by simp [intOf]⟩
        · go_wp2
          go_loopw [71] (fun jv wr => ∃ j : Nat, j ≤ m4 ∧ jv = .int .i64 j ∧ OwnSt wa w3 w2.heap.size w5.heap.size Aa ma ca A4 m4 c4 A5 n5 c5 wr) (fun jv _ => m4 - (intOf jv).toNat)
          case atStart => exact ⟨0, Nat.zero_le _, rfl, hSt⟩
          case round =>
            clear hSt hcell0 hcell1 hcell2
            obtain ⟨j, hj, rfl, hSt⟩ := hrel
            by_cases hjl : j < m4
            · have hjI : (j : Int) < (m4 : Int) := by omega
              obtain ⟨bz, hown⟩ := hSt.o2
              obtain ⟨gb, cz, hAz, hgb, hblk, htk⟩ := ownB_blk hown (by omega)
              have hgood := HG.out.2.1 gb (by rw [hAz]; rfl)
              subst hAz
              have hc0 := hblk.cell j
              rw [take_get' htk (by rw [hown.len]; exact hjl)] at hc0
              have hf0 := hblk.frozen j
              have hs' := hSt.write gb j (nth bz j ^^^ 255) hgb hgood
              go_wp2
              rw [xor_255]
              exact ⟨⟨j + 1, by omega, by go_num, hs'⟩, by simp [intOf]; omega⟩
            · obtain rfl : j = m4 := by omega
              go_wp2
              exact ⟨⟨1 + 1, by omega, by go_num, hSt⟩, by simp [intOf]⟩
        · go_wp2
          go_loopw [71] (fun jv wr => ∃ j : Nat, j ≤ n5 ∧ jv = .int .i64 j ∧ OwnSt wa w3 w2.heap.size w5.heap.size Aa ma ca A4 m4 c4 A5 n5 c5 wr) (fun jv _ => n5 - (intOf jv).toNat)
          case atStart => exact ⟨0, Nat.zero_le _, rfl, hSt⟩
          case round =>
            clear hSt hcell0 hcell1 hcell2
            obtain ⟨j, hj, rfl, hSt⟩ := hrel
            by_cases hjl : j < n5
            · have hjI : (j : Int) < (n5 : Int) := by omega
              obtain ⟨bz, hown⟩ := hSt.o3
              obtain ⟨gb, cz, hAz, hgb, hblk, htk⟩ := ownB_blk hown (by omega)
              have hgood := HG.out.2.2 gb (by rw [hAz]; rfl)
              subst hAz
              have hc0 := hblk.cell j
              rw [take_get' htk (by rw [hown.len]; exact hjl)] at hc0
              have hf0 := hblk.frozen j
              have hs' := hSt.write gb j (nth bz j ^^^ 255) hgb hgood
              go_wp2
              rw [xor_255]
              exact ⟨⟨j + 1, by omega, by go_num, hs'⟩, by simp [intOf]; omega⟩
            · obtain rfl : j = n5 := by omega
              go_wp2
              exact ⟨⟨2 + 1, by omega, by go_num, hSt⟩, by simp [intOf]⟩
      · obtain rfl : iN = 3 := by omega
        have hE1 := (hE.below hSt.below).re
        have hE2 := (ownE_agree hE3' fun k hk1 hk2 => hSt.mid k hk1 hk2).re
        have hBwr := below_step hBa hSt.below hBa.size
        have hL0 := (hE.loose Hd.out).below hSt.below
        clear hSt hE hE3 hE3' HG
        go_wp2_with fail
        refine (same_any D n3 d D3 d3 l wr hE1 hE2).mono ?_
        rintro e w7 ⟨rfl, q, rfl⟩
        have hBq := below_drewN wr q
        have hL := hL0.below hBq
        have hBw := below_step hBwr hBq hBwr.size
        clear hE1 hE2 hL0 hBwr hBq
        generalize wr.drewN q = w7 at *
        go_wp2_with fail
        refine (equal_any A m c bs A1 n1 c1 bs w7 (hr.below (below_step hB1 hBw hB1.size)) (hold.below hBw).rb).mono ?_
        rintro e w8 ⟨rfl, rfl⟩
        rw [beq_self_eq_true]
        go_wp2
        go_loopw [94] (fun iv wv => ∃ k : Nat, k ≤ n3 ∧ iv = .int .i64 k ∧ OwnL wv w1.heap.size D n3 d ∧ Below w1.heap.size w1 wv) (fun iv _ => n3 - (intOf iv).toNat)
        case atStart => exact ⟨0, Nat.zero_le _, rfl, hL, hBw⟩
        case round =>
          clear hL hBw
          obtain ⟨k, hk, rfl, hL, hBw⟩ := hrel
          obtain ⟨wv, hwv⟩ : ∃ wv, wv = wr := ⟨_, rfl⟩
          subst hwv
          have hn16 := Hlen16.out
          by_cases hlt : k < n3
          · obtain ⟨g, kd, Az, mz, cz, bz, hD, hc0, hc1, hown, hmz⟩ := hL.at_ hlt
            subst hD
            have hkI : (k : Int) < (n3 : Int) := by omega
            have hkn : n3 ≤ 16 := by
              have h1 := hn16
              have h2 := HnL.out
              omega
            have hX := (Below.refl wv.heap.size wv).alloc (Nat.le_refl _) (.cells #[.int .i64 kd, .slice Az mz cz] 27)
            have hb1 := Blk.new wv 27 [.int .i64 kd, .slice Az mz cz]
            have hL1 := hL.below hX
            have hBw1 := below_step hBw hX hBw.size
            have hown1 := hown.below hX
            go_wp2
            go_loopw [101] (fun jv wx => ∃ (j : Nat) (bz : List UInt8), j ≤ mz ∧ jv = .int .i64 j ∧ OwnL wx w1.heap.size (some ⟨g, 0, none⟩) n3 d ∧ Below w1.heap.size w1 wx ∧ Blk wx wv.heap.size 27 [.int .i64 kd, .slice Az mz cz] ∧ OwnB wx w1.heap.size Az mz cz bz) (fun jv _ => mz - (intOf jv).toNat)
            case atStart => exact ⟨0, _, Nat.zero_le _, rfl, hL1, hBw1, hb1, hown1⟩
            case round =>
              clear hX hb1 hL1 hBw1 hown1 hc0 hc1 hown hL hBw
              obtain ⟨j, bz, hj, rfl, hL, hBw, hbE, hown⟩ := hrel
              have he1 := hbE.cell 1
              simp only [List.getElem?_cons_zero, List.getElem?_cons_succ] at he1
              by_cases hjl : j < mz
              · have hjI : (j : Int) < (mz : Int) := by omega
                obtain ⟨gb, cz', hAz, hgb, hblk, htk⟩ := ownB_blk hown (by omega)
                subst hAz
                have hc0 := hblk.cell j
                rw [take_get' htk (by rw [hown.len]; exact hjl)] at hc0
                have hf0 := hblk.frozen j
                have hneE := blk_ne hbE hblk (by decide)
                have hL' := hL.write hblk j (nth bz j ^^^ 255)
                obtain ⟨bz', hown'⟩ := own_write hown gb j (nth bz j ^^^ 255)
                have hBw' := hBw.setCell (p := ⟨gb, j, none⟩) hgb (.int .u8 ((nth bz j ^^^ 255).toNat : Int))
                have hbE' := hbE.far (p := ⟨gb, j, none⟩) hneE (.int .u8 ((nth bz j ^^^ 255).toNat : Int))
                go_wp2
                rw [xor_255]
                exact ⟨⟨j + 1, bz', by omega, by go_num, hL', hBw', hbE', hown'⟩, by simp [intOf]; omega⟩
              · obtain rfl : j = mz := by omega
                go_wp2
                exact ⟨⟨k + 1, by omega, by go_num, hL, hBw⟩, by simp [intOf]; omega⟩
          · obtain rfl : k = n3 := by omega
            go_wp2_with fail
            refine (equal_any A m c bs A1 n1 c1 bs _ (hr.below (below_step hB1 hBw hB1.size)) (hold.below hBw).rb).mono ?_
            rintro e w8 ⟨rfl, rfl⟩
            rw [beq_self_eq_true]
            have hWf := below_step hB1 hBw hB1.size
            go_wp2_with (go_at_call 10; refine (awake20 _).mono ?_; rintro e w9 ⟨rfl, hB9⟩)
            go_ret
            exact ⟨rfl, below_step hWf hB9 hWf.size⟩
  · have hne : ((parse bs).err != 0) = true := by simpa using he
    have hold2 := (hold.below hC1).rb
    go_wp2_with fail
    refine (equal_any A m c bs A1 n1 c1 bs w2 (hr.below hW2) hold2).mono ?_
    rintro e w3 ⟨rfl, rfl⟩
    rw [beq_self_eq_true]
    go_wp2_with (go_at_call 10; refine (awake20 _).mono ?_; rintro e w4 ⟨rfl, hB4⟩)
    go_ret
    exact ⟨rfl, below_step hW2 hB4 hW2.size⟩
end Go.Proofs.Ytgihbhplmhpciaa
