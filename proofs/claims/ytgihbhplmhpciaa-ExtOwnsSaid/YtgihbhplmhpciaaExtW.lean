/- Lists of extension fields in memory. -/
import Derived.Test.YtgihbhplmhpciaaRead
namespace Go.Proofs.Ytgihbhplmhpciaa
open Go.RowKit
set_option linter.unusedVariables false

structure Ext where
  kind : Int
  data : List UInt8

/-- Cells that hold extension fields. -/
structure EL (w : World) (xs : List Value) (l : List Ext) : Prop where
  len : xs.length = l.length * 2
  get : ∀ (j : Nat) (e : Ext), l[j]? = some e → (-9223372036854775808 ≤ e.kind ∧ e.kind ≤ 9223372036854775807) ∧ xs[j * 2]? = some (.int .i64 e.kind) ∧ ∃ A m c, xs[j * 2 + 1]? = some (.slice A m c) ∧ RB w A m c e.data

/-- The slice at A reads as the fields l. -/
structure RE (w : World) (A : Option Addr) (n c : Nat) (l : List Ext) : Prop where
  len : l.length = n
  cap : n ≤ c
  max : c ≤ 9223372036854775807
  cells : 0 < n → ∃ (b o : Nat) (xs : List Value), A = some ⟨b, o, none⟩ ∧ b < w.heap.size ∧ EL w xs l ∧ ∀ (i : Nat) (u : Value), xs[i]? = some u → w.cell? ⟨b, o + i, none⟩ = some u

theorem EL.below {w w' : World} {xs : List Value} {l : List Ext} (h : EL w xs l) (hb : Below w.heap.size w w') : EL w' xs l :=
  ⟨h.len, fun j e he => by
    obtain ⟨h1, h2, A, m, c, h3, h4⟩ := h.get j e he
    exact ⟨h1, h2, A, m, c, h3, h4.below hb⟩⟩

theorem RE.below {w w' : World} {A : Option Addr} {n c : Nat} {l : List Ext} (h : RE w A n c l) (hb : Below w.heap.size w w') : RE w' A n c l :=
  ⟨h.len, h.cap, h.max, fun hn => by
    obtain ⟨b, o, xs, hA, hlt, hE, hc⟩ := h.cells hn
    exact ⟨b, o, xs, hA, Nat.lt_of_lt_of_le hlt hb.size, hE.below hb, fun i u hu => (hb.cell (p := ⟨b, o + i, none⟩) hlt).trans (hc i u hu)⟩⟩

theorem RE.at_ {w : World} {A : Option Addr} {n c : Nat} {l : List Ext} (h : RE w A n c l) {j : Nat} {e : Ext} (he : l[j]? = some e) :
    ∃ b o, A = some ⟨b, o, none⟩ ∧ b < w.heap.size ∧ (-9223372036854775808 ≤ e.kind ∧ e.kind ≤ 9223372036854775807) ∧ w.cell? ⟨b, o + j * 2, none⟩ = some (.int .i64 e.kind) ∧
      ∃ A' m' c', w.cell? ⟨b, o + j * 2 + 1, none⟩ = some (.slice A' m' c') ∧ RB w A' m' c' e.data := by
  have hj := (List.getElem?_eq_some_iff.1 he).1
  obtain ⟨b, o, xs, hA, hlt, hE, hc⟩ := h.cells (by have := h.len; omega)
  obtain ⟨h1, h2, A', m', c', h3, h4⟩ := hE.get j e he
  exact ⟨b, o, hA, hlt, h1, hc _ _ h2, A', m', c', by rw [Nat.add_assoc]; exact hc _ _ h3, h4⟩


/-- Cells of the call's own that hold extension fields. -/
structure EO (w : World) (base : Nat) (xs : List Value) (l : List Ext) : Prop where
  len : xs.length = l.length * 2
  get : ∀ (j : Nat) (e : Ext), l[j]? = some e → (-9223372036854775808 ≤ e.kind ∧ e.kind ≤ 9223372036854775807) ∧ xs[j * 2]? = some (.int .i64 e.kind) ∧ ∃ A m c, xs[j * 2 + 1]? = some (.slice A m c) ∧ OwnB w base A m c e.data

theorem EO.el {w : World} {base : Nat} {xs : List Value} {l : List Ext} (h : EO w base xs l) : EL w xs l :=
  ⟨h.len, fun j e he => by
    obtain ⟨h1, h2, A, m, c, h3, h4⟩ := h.get j e he
    exact ⟨h1, h2, A, m, c, h3, h4.rb⟩⟩
theorem EO.nil (w : World) (base : Nat) : EO w base [] [] := ⟨rfl, fun j e he => by simp at he⟩
theorem EO.imp {w w' : World} {base base' : Nat} {xs : List Value} {l : List Ext} (h : EO w base xs l) (hi : ∀ A m c bs, OwnB w base A m c bs → OwnB w' base' A m c bs) : EO w' base' xs l :=
  ⟨h.len, fun j e he => by
    obtain ⟨h1, h2, A, m, c, h3, h4⟩ := h.get j e he
    exact ⟨h1, h2, A, m, c, h3, hi _ _ _ _ h4⟩⟩
theorem EO.snoc {w : World} {base : Nat} {xs : List Value} {l : List Ext} (h : EO w base xs l) {k : Int} {A : Option Addr} {m c : Nat} {data : List UInt8} (hk : -9223372036854775808 ≤ k ∧ k ≤ 9223372036854775807) (hd : OwnB w base A m c data) :
    EO w base (xs ++ [.int .i64 k, .slice A m c]) (l ++ [⟨k, data⟩]) := by
  refine ⟨by simp [h.len]; omega, fun j e he => ?_⟩
  by_cases hj : j < l.length
  · rw [List.getElem?_append_left hj] at he
    obtain ⟨h1, h2, A', m', c', h3, h4⟩ := h.get j e he
    refine ⟨h1, ?_, A', m', c', ?_, h4⟩
    · rw [List.getElem?_append_left (by rw [h.len]; omega)]; exact h2
    · rw [List.getElem?_append_left (by rw [h.len]; omega)]; exact h3
  · have hjl := (List.getElem?_eq_some_iff.1 he).1
    simp only [List.length_append, List.length_cons, List.length_nil] at hjl
    obtain rfl : j = l.length := by omega
    rw [List.getElem?_append_right (Nat.le_refl _), Nat.sub_self] at he
    injection he with he
    subst he
    refine ⟨hk, ?_, A, m, c, ?_, hd⟩
    · rw [List.getElem?_append_right (by rw [h.len]; omega), h.len, Nat.sub_self]; rfl
    · rw [List.getElem?_append_right (by rw [h.len]; omega), h.len, Nat.add_sub_cancel_left]; rfl

/-- Extension fields of the call's own: from block base on. -/
def OwnE (w : World) (base : Nat) (D : Option Addr) (n d : Nat) (l : List Ext) : Prop := ∃ xs, w.ownsRow base 27 2 (.slice D n d) n xs ∧ EO w base xs l

theorem OwnE.nil (w : World) (base : Nat) : OwnE w base none 0 0 [] := ⟨[], World.ownsRow_nil _ _ _ _, EO.nil _ _⟩
theorem OwnE.len {w : World} {base : Nat} {D : Option Addr} {n d : Nat} {l : List Ext} (h : OwnE w base D n d l) : l.length = n := by
  obtain ⟨xs, h1, h2⟩ := h
  have := h1.1
  have := h2.len
  omega
theorem OwnE.below {w w' : World} {base : Nat} {D : Option Addr} {n d : Nat} {l : List Ext} (h : OwnE w base D n d l) (hb : Below w.heap.size w w') : OwnE w' base D n d l := by
  obtain ⟨xs, h1, h2⟩ := h
  exact ⟨xs, own_below h1 hb, h2.imp fun _ _ _ _ h => h.below hb⟩
theorem OwnE.mono {w : World} {base base' : Nat} {D : Option Addr} {n d : Nat} {l : List Ext} (h : OwnE w base D n d l) (hb : base' ≤ base) : OwnE w base' D n d l := by
  obtain ⟨xs, h1, h2⟩ := h
  exact ⟨xs, own_mono h1 hb, h2.imp fun _ _ _ _ h => h.mono hb⟩
theorem OwnE.re {w : World} {base : Nat} {D : Option Addr} {n d : Nat} {l : List Ext} (h : OwnE w base D n d l) : RE w D n d l := by
  have hl := h.len
  obtain ⟨xs, h1, h2⟩ := h
  rcases h1.2 with ⟨he, h0⟩ | ⟨g, cap, cur, he, hb, hh, hn, hc, hs, ht⟩
  · injection he with e1 e2 e3
    exact ⟨hl, by omega, by omega, fun hp => by omega⟩
  · injection he with e1 e2 e3
    subst e1 e3
    refine ⟨hl, hn, by simpa [maxLen] using hc, fun _ => ⟨g, 0, xs, rfl, (Array.getElem?_eq_some_iff.1 hh).1, h2.el, fun j u hu => ?_⟩⟩
    have := h1.cells (g := g) rfl j u hu
    rwa [Addr.add_lit] at this

theorem info_ext : (Try.prog.info? 27).map (fun i => (i.zero, i.size, i.bytes)) = some (some (.agg #[.int .i64 0, .slice none 0 0]), 2, 32) := by kernel_rfl

section
variable {ops : Array Oper} {rest : List Oper} {o : Oper} {a : Act} {Q : Exit → Act → World → Prop} {w : World}
/-- append(l, x) of one field, whose data the call owns. -/
theorem append_ext (hgd : Region.wanted o (yielded ops a.tmps) = true) (s x : Operand) (ho : o.op = .call { callee := .builtin .append, args := #[s, x], argTypes := #[23, 23] })
    (D : Option Addr) (n d : Nat) (l : List Ext) (g : Nat) (k : Int) (A : Option Addr) (m c : Nat) (data : List UInt8) (hs : a.eval s = .slice D n d) (hx : a.eval x = .slice (some ⟨g, 0, none⟩) 1 1) (base : Nat) (w0 : World)
    (hg : Blk w g 27 [.int .i64 k, .slice A m c]) (hown : OwnE w base D n d l) (hd : OwnB w base A m c data) (hk : -9223372036854775808 ≤ k ∧ k ≤ 9223372036854775807) (hn : n ≤ 1000000) (hb : Below base w0 w) (hbase : base ≤ w.heap.size)
    (h : ∀ D' N d' w', OwnE w' base D' N d' (l ++ [⟨k, data⟩]) → Hid (N = n + 1) → Below base w0 w' → w.grownBy w' (Value.slice D n d).ownBlock → wpList Try.prog ops Q rest (a.put o.dst (.slice D' N d')) w') :
    wpList Try.prog ops Q (o :: rest) a w := by
  obtain ⟨i0, hi, hz0, hz1, hz2⟩ := info_parts info_ext
  obtain ⟨xs, h1, h2⟩ := hown
  refine wpList_append_b hgd s x 23 ho 27 i0 _ 2 32 Try.underlying23 hi hz0 hz1 hz2 rfl (by omega) _ n xs _ 1 1 _ hs hx base w0 h1 hg.src rfl (by intro u hu; simp at hu; rcases hu with rfl | rfl <;> rfl) (by omega) (by omega) hb hbase ?_
  intro A' N c' w' k1 k2 k3 k4 k5
  have data' : ∀ A m c bs, OwnB w base A m c bs → OwnB w' base A m c bs := fun A m c bs hB => World.ownsRow.kept hB k4 (own_ne hB h1 (by decide))
  exact h A' N c' w' ⟨_, k1, (h2.imp data').snoc hk (data' _ _ _ _ hd)⟩ k2 k3 k4
end
end Go.Proofs.Ytgihbhplmhpciaa
