/- Steps of the walk at this program's slices of bytes. -/
import Derived.Test.YtlobddhpkemklaaBase
import Derived.Test.YtlobddhpkemklaaProg
import Derived.KernelRfl
namespace Go.Proofs.Ytlobddhpkemklaa
open Go.RowKit
set_option linter.unusedVariables false

theorem info_u8 : (Try.prog.info? 5).map (fun i => (i.zero, i.size, i.bytes)) = some (some (.int .u8 0), 1, 1) := by kernel_rfl
theorem info_u8s : (Try.prog.info? 5).map (·.size) = some 1 := by kernel_rfl

section
variable {ops : Array Oper} {rest : List Oper} {o : Oper} {a : Act} {Q : Exit → Act → World → Prop} {w : World}
/-- append(v, x...) of bytes. -/
theorem append_bytes (hgd : Region.wanted o (yielded ops a.tmps) = true) (s x : Operand) (ho : o.op = .call { callee := .builtin .append, args := #[s, x], argTypes := #[34, 34] })
    (A0 : Option Addr) (n c0 : Nat) (bs0 : List UInt8) (A : Option Addr) (m c : Nat) (bs : List UInt8) (hs : a.eval s = .slice A0 n c0) (hx : a.eval x = .slice A m c) (base : Nat) (w0 : World)
    (hown : OwnB w base A0 n c0 bs0) (hr : RB w A m c bs) (hmax : n + m ≤ 140737488355328) (hb : Below base w0 w) (hbase : base ≤ w.heap.size)
    (h : ∀ A' N c' w', OwnB w' base A' N c' (bs0 ++ bs) → Hid (N = n + m) → Below base w0 w' → w.grownBy w' (Value.slice A0 n c0).ownBlock →
      ((Value.slice A' N c').ownBlock = (Value.slice A0 n c0).ownBlock ∨ (Value.slice A' N c').ownBlock = some w.heap.size) → wpList Try.prog ops Q rest (a.put o.dst (.slice A' N c')) w') :
    wpList Try.prog ops Q (o :: rest) a w := by
  obtain ⟨i0, hi, hz0, hz1, hz2⟩ := info_parts info_u8
  refine wpList_append_b hgd s x 34 ho 5 i0 _ 1 1 Try.underlying34 hi hz0 hz1 hz2 rfl (by omega) _ n (BV bs0) A m c (BV bs) hs hx base w0 hown hr.src (by rw [BV_length, hr.len]; omega) (BV_one bs) (by omega) (by omega) hb hbase ?_
  intro A' N c' w' h1 h2 h3 h4 h5
  rw [← BV_append] at h1
  exact h A' N c' w' h1 h2 h3 h4 h5

/-- append(v, x, y ..) of bytes that are written out. -/
theorem append_lit (hgd : Region.wanted o (yielded ops a.tmps) = true) (s x : Operand) (ho : o.op = .call { callee := .builtin .append, args := #[s, x], argTypes := #[34, 34] })
    (A0 : Option Addr) (n c0 : Nat) (bs0 : List UInt8) (g m c : Nat) (cs : List Value) (bs : List UInt8) (hs : a.eval s = .slice A0 n c0) (hx : a.eval x = .slice (some ⟨g, 0, none⟩) m c) (base : Nat) (w0 : World)
    (hown : OwnB w base A0 n c0 bs0) (hg : Blk w g 5 cs) (hcs : cs = BV bs) (hm : bs.length = m) (hmc : m ≤ c) (hc : c ≤ 1000) (hmax : n + m ≤ 140737488355328) (hb : Below base w0 w) (hbase : base ≤ w.heap.size)
    (h : ∀ A' N c' w', OwnB w' base A' N c' (bs0 ++ bs) → Hid (N = n + m) → Below base w0 w' → w.grownBy w' (Value.slice A0 n c0).ownBlock →
      ((Value.slice A' N c').ownBlock = (Value.slice A0 n c0).ownBlock ∨ (Value.slice A' N c').ownBlock = some w.heap.size) → wpList Try.prog ops Q rest (a.put o.dst (.slice A' N c')) w') :
    wpList Try.prog ops Q (o :: rest) a w := by
  subst hcs
  exact append_bytes hgd s x ho A0 n c0 bs0 _ m c bs hs hx base w0 hown (hg.rb hm hmc (by omega)) hmax hb hbase h

/-- make([]byte, n). -/
theorem make_bytes (hgd : Region.wanted o (yielded ops a.tmps) = true) (x : Operand) (ho : o.op = .makeSlice 34 x x) (n : Nat) (v : Int) (hx : a.eval x = .int .i64 v) (hv : v = n) (hn : n ≤ 281474976710656) (B : Nat) (w0 : World) (hb : Below B w0 w) (hB : B ≤ w.heap.size)
    (h : ∀ w', Blk w' w.heap.size 5 (List.replicate n (.int .u8 0)) → Below B w0 w' → Below w.heap.size w w' → w'.heap.size = w.heap.size + 1 → wpList Try.prog ops Q rest (a.put o.dst (.slice (some ⟨w.heap.size, 0, none⟩) n n)) w') : wpList Try.prog ops Q (o :: rest) a w := by
  obtain ⟨i0, hi, hz0, hz1, hz2⟩ := info_parts info_u8
  exact wpList_make_b hgd x 34 ho 5 i0 _ 1 Try.underlying34 hi hz0 hz1 hz2 rfl n v hx hv (by omega) (by omega) B w0 hb hB h

/-- copy(v, x) of bytes into a block of the call's own. -/
theorem copy_bytes (hgd : o.guard = none) (d s : Operand) (ho : o.op = .call { callee := .builtin .copy, args := #[d, s], argTypes := #[34, 34] })
    (g off N C : Nat) (cur : List Value) (A : Option Addr) (m c : Nat) (bs : List UInt8) (hd : a.eval d = .slice (some ⟨g, off, none⟩) N C) (hs : a.eval s = .slice A m c)
    (hg : Blk w g 5 cur) (hR : RB w A m c bs) (hm : m ≤ N) (hN : off + m ≤ cur.length) (B : Nat) (w0 : World) (hb : Below B w0 w) (hB : B ≤ g)
    (h : ∀ w', Blk w' g 5 (cur.take off ++ BV bs ++ cur.drop (off + m)) → Below B w0 w' → w'.heap.size = w.heap.size → w.grownBy w' (some g) → wpList Try.prog ops Q rest (a.put o.dst (.int .i64 m)) w') : wpList Try.prog ops Q (o :: rest) a w :=
  wpList_copy_b hgd d s 34 ho 5 Try.underlying34 info_u8s g off N C cur A m c bs hd hs hg hR hm hN B w0 hb hB h
end
end Go.Proofs.Ytlobddhpkemklaa
