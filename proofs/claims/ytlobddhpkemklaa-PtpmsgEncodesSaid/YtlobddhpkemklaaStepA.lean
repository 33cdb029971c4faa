/- append of bytes, at a step of a region that draws its order; what an appended slice leaves as it was.
  SEATS: ptp guard -/
import Derived.Test.YtlobddhpkemklaaMem
import Derived.Deep.RegionHeld3
namespace Go.Proofs.Ytlobddhpkemklaa
open Go.RowKit
set_option linter.unusedVariables false

/-- From one world to another no block has changed but that of a slice, and the new slice lies there or in a new block. -/
def Gr (w w' : World) (v v' : Value) : Prop := w.grownBy w' v.ownBlock ∧ (v'.ownBlock = v.ownBlock ∨ ∀ k, v'.ownBlock = some k → w.heap.size ≤ k)
theorem Gr.refl (w : World) (v : Value) : Gr w w v v := ⟨World.grownBy.refl _ _, .inl rfl⟩
theorem Gr.trans {w w1 w2 : World} {v v1 v2 : Value} (h : Gr w w1 v v1) (k : Gr w1 w2 v1 v2) : Gr w w2 v v2 := by
  refine ⟨⟨k.1.os.trans h.1.os, k.1.tape.trans h.1.tape, k.1.output.trans h.1.output, Nat.le_trans h.1.size k.1.size, fun j hj hne => ?_⟩, ?_⟩
  · refine (k.1.block j (Nat.lt_of_lt_of_le hj h.1.size) (fun e => ?_)).trans (h.1.block j hj hne)
    rcases h.2 with q | q
    · exact hne (e.trans q)
    · have := q j e.symm
      omega
  · rcases k.2 with e | e
    · rcases h.2 with q | q
      · exact .inl (e.trans q)
      · exact .inr (fun j hj => q j (e.symm.trans hj))
    · exact .inr (fun j hj => Nat.le_trans h.1.size (e j hj))
theorem Gr.alloc (w : World) (o : Obj) (v : Value) : Gr w (w.alloc o) v v := ⟨World.grownBy_alloc w o _, .inl rfl⟩
theorem Gr.fresh {w w' : World} {v v' : Value} (h : Below w.heap.size w w') (hv : ∀ k, v'.ownBlock = some k → w.heap.size ≤ k) : Gr w w' v v' := ⟨grown_of_below h _, .inr hv⟩
theorem Gr.below {w w' : World} {v : Value} (h : Below w.heap.size w w') : Gr w w' v v := ⟨grown_of_below h _, .inl rfl⟩
/-- A block that the slice does not lie in. -/
def Kp (w : World) (v : Value) (b : Nat) (t : TypeId) (cs : List Value) : Prop := Blk w b t cs ∧ some b ≠ v.ownBlock
theorem Kp.step {w w' : World} {v v' : Value} {b : Nat} {t : TypeId} {cs : List Value} (h : Kp w v b t cs) (g : Gr w w' v v') : Kp w' v' b t cs := by
  refine ⟨h.1.grown g.1 h.2, fun e => ?_⟩
  rcases g.2 with q | q
  · exact h.2 (e.trans q)
  · have := q b e.symm
    have := h.1.lt
    omega
theorem Kp.new {w : World} {base n c : Nat} {A : Option Addr} {bs : List UInt8} (h : OwnB w base A n c bs) (t : TypeId) (cs : List Value) : Kp (w.alloc (.cells cs.toArray t)) (.slice A n c) w.heap.size t cs :=
  ⟨Blk.new w t cs, fun e => Nat.lt_irrefl _ (World.ownsRow.lt h w.heap.size e.symm).2⟩
theorem Gr.low {B base n c : Nat} {w0 w w' : World} {A : Option Addr} {bs : List UInt8} {v' : Value} (hB : Below B w0 w) (hs : B ≤ w.heap.size) (h : OwnB w base A n c bs) (hb : B ≤ base) (g : Gr w w' (.slice A n c) v') : Below B w0 w' :=
  hB.grown g.1 hs (fun k hk => Nat.le_trans hb (own_base h k hk))

/-- append(v, x...) of bytes at a step. -/
theorem step_append_bytes {ops : Array Oper} {o : Oper} {a : Act} {w : World} {K : Act → World → Prop} {Q : Exit → Act → World → Prop} {E : Prop} (hw : Region.wanted o (yielded ops a.tmps) = true) (s x : Operand)
    (ho : o.op = .call { callee := .builtin .append, args := #[s, x], argTypes := #[34, 34] })
    (A0 : Option Addr) (n c0 : Nat) (bs0 : List UInt8) (A : Option Addr) (m c : Nat) (bs : List UInt8) (hs : a.eval s = .slice A0 n c0) (hx : a.eval x = .slice A m c) (base : Nat)
    (hown : OwnB w base A0 n c0 bs0) (hr : RB w A m c bs) (hmax : n + m ≤ 140737488355328) (hbase : base ≤ w.heap.size)
    (h : ∀ A' N c' w', OwnB w' base A' N c' (bs0 ++ bs) → Hid (N = n + m) → Gr w w' (.slice A0 n c0) (.slice A' N c') → K (a.put o.dst (.slice A' N c')) w') :
    if Region.wanted o (yielded ops a.tmps) = true then Oper.wp Try.prog o a w K Q else E := by
  rw [if_pos hw]
  obtain ⟨i0, hi, hz0, hz1, hz2⟩ := info_parts info_u8
  obtain ⟨A', c', w', hrun, h2, h3, h4⟩ := run_append_all (P := Try.prog) (w := w) base 34 o.type 5 i0 _ 1 1 Try.underlying34 hi hz0 hz1 hz2 rfl (by omega) (.slice A0 n c0) n (BV bs0) hown A m c (BV bs) (by rw [BV_length, hr.len]; omega) hr.src (BV_one bs) (by omega) (by omega) hbase (fun _ => rfl)
  unfold Oper.wp execOp
  simp only [ho, resolve, invoke, builtin, Sem.run_bind, Sem.run_pure, Result.andThen_ok, List.map_toArray, List.map_cons, List.map_nil, hs, hx, hrun]
  rw [← BV_append] at h2
  exact h A' (n + m) c' w' h2 (hide rfl) ⟨h3, h4.imp id (fun e k hk => by rw [e] at hk; cases hk; exact Nat.le_refl _)⟩
end Go.Proofs.Ytlobddhpkemklaa
