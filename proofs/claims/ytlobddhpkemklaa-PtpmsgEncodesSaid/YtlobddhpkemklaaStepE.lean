/- Bytes that are made step by step, beside blocks that stay as they are.
  SEATS: ptp guard -/
import Derived.Test.YtlobddhpkemklaaStepA
namespace Go.Proofs.Ytlobddhpkemklaa
open Go.RowKit
set_option linter.unusedVariables false

/-- A slice v of the call's own that holds bs (at most N), blocks ks and ls that it does not lie in, and nothing changed of what was there at w0. -/
def Enc (w0 w : World) (ks ls : List (Nat × TypeId × List Value)) (v : Value) (bs : List UInt8) (N : Nat) : Prop :=
  (∃ A n c, v = .slice A n c ∧ OwnB w w0.heap.size A n c bs) ∧ (∀ x ∈ ks, Kp w v x.1 x.2.1 x.2.2) ∧ (∀ x ∈ ls, Kp w v x.1 x.2.1 x.2.2) ∧ Below w0.heap.size w0 w ∧ bs.length ≤ N
section
variable {w0 w w' : World} {ks ls : List (Nat × TypeId × List Value)} {v : Value} {bs bs' : List UInt8} {N : Nat}
theorem Enc.size (E : Enc w0 w ks ls v bs N) : w0.heap.size ≤ w.heap.size := E.2.2.2.1.size
theorem Enc.low (E : Enc w0 w ks ls v bs N) : Below w0.heap.size w0 w := E.2.2.2.1
theorem Enc.own {A : Option Addr} {n c : Nat} (E : Enc w0 w ks ls (.slice A n c) bs N) : OwnB w w0.heap.size A n c bs := by
  obtain ⟨⟨A', n', c', e, h⟩, -⟩ := E
  cases e
  exact h
theorem Enc.gr {A' : Option Addr} {n' c' : Nat} {N' : Nat} (E : Enc w0 w ks ls v bs N) (h : OwnB w' w0.heap.size A' n' c' bs') (g : Gr w w' v (.slice A' n' c')) (hN : bs'.length ≤ N') : Enc w0 w' ks ls (.slice A' n' c') bs' N' := by
  obtain ⟨⟨A, n, c, rfl, hown⟩, hk, hl, hB, hn⟩ := E
  exact ⟨⟨_, _, _, rfl, h⟩, fun x hx => (hk x hx).step g, fun x hx => (hl x hx).step g, Gr.low hB hB.size hown (Nat.le_refl _) g, hN⟩
theorem Enc.same (E : Enc w0 w ks ls v bs N) (g : Gr w w' v v) (h : ∀ A n c, OwnB w w0.heap.size A n c bs → OwnB w' w0.heap.size A n c bs) : Enc w0 w' ks ls v bs N := by
  obtain ⟨⟨A, n, c, rfl, hown⟩, hk, hl, hB, hn⟩ := E
  exact ⟨⟨_, _, _, rfl, h _ _ _ hown⟩, fun x hx => (hk x hx).step g, fun x hx => (hl x hx).step g, Gr.low hB hB.size hown (Nat.le_refl _) g, hn⟩
theorem Enc.below (E : Enc w0 w ks ls v bs N) (hb : Below w.heap.size w w') : Enc w0 w' ks ls v bs N := E.same (Gr.below hb) (fun _ _ _ h => h.below hb)
theorem Enc.drew (E : Enc w0 w ks ls v bs N) : Enc w0 w.drew ks ls v bs N := E.below (Below.refl _ _).drew
theorem Enc.alloc (E : Enc w0 w ks ls v bs N) (o : Obj) : Enc w0 (w.alloc o) ks ls v bs N := E.same (Gr.alloc _ _ _) (fun _ _ _ h => h.alloc o)
theorem Enc.push (E : Enc w0 w ks ls v bs N) (cs : List Value) (t : TypeId) : Enc w0 (w.alloc (.cells cs.toArray t)) ks ((w.heap.size, t, cs) :: ls) v bs N := by
  obtain ⟨h1, h2, h3, h4, h5⟩ := E.alloc (.cells cs.toArray t)
  refine ⟨h1, h2, fun x hx => ?_, h4, h5⟩
  rcases List.mem_cons.1 hx with rfl | hx
  · obtain ⟨⟨A, n, c, rfl, hown⟩, -⟩ := E
    exact Kp.new hown t cs
  · exact h3 x hx
theorem Enc.keep (E : Enc w0 w ks ls v bs N) (cs : List Value) (t : TypeId) : Enc w0 (w.alloc (.cells cs.toArray t)) ((w.heap.size, t, cs) :: ks) ls v bs N := by
  obtain ⟨h1, h2, h3, h4, h5⟩ := E.push cs t
  exact ⟨h1, fun x hx => (List.mem_cons.1 hx).elim (fun e => h3 x (List.mem_cons.2 (.inl e))) (h2 x), fun x hx => h3 x (List.mem_cons_of_mem _ hx), h4, h5⟩
theorem Enc.addk {cs : List Value} {t : TypeId} (E : Enc w0 w ks ls v bs N) (hb : Below w.heap.size w w') (hk : Blk w' w.heap.size t cs) : Enc w0 w' ((w.heap.size, t, cs) :: ks) ls v bs N := by
  obtain ⟨h1, h2, h3, h4, h5⟩ := E.below hb
  obtain ⟨⟨A, n, c, rfl, hown⟩, -⟩ := E
  exact ⟨h1, fun x hx => (List.mem_cons.1 hx).elim (fun e => by rw [e]; exact ⟨hk, fun q => Nat.lt_irrefl _ (World.ownsRow.lt hown _ q.symm).2⟩) (h2 x), h3, h4, h5⟩
theorem Enc.pop {x : Nat × TypeId × List Value} (E : Enc w0 w ks (x :: ls) v bs N) : Enc w0 w ks ls v bs N := ⟨E.1, E.2.1, fun y hy => E.2.2.1 y (List.mem_cons_of_mem _ hy), E.2.2.2.1, E.2.2.2.2⟩
theorem Enc.cell (E : Enc w0 w ks ls v bs N) {b i : Nat} {t : TypeId} {cs : List Value} {x : Value} (hm : (b, t, cs) ∈ ks) (hx : cs[i]? = some x) : w.cell? ⟨b, i, none⟩ = some x := ((E.2.1 _ hm).1.cell i).trans hx
theorem Enc.blk (E : Enc w0 w ks ls v bs N) {b : Nat} {t : TypeId} {cs : List Value} (hm : (b, t, cs) ∈ ks) : Blk w b t cs := (E.2.1 _ hm).1
theorem Enc.cast (E : Enc w0 w ks ls v bs N) (e : bs = bs') : Enc w0 w ks ls v bs' N := e ▸ E
theorem Enc.grow {N' : Nat} (E : Enc w0 w ks ls v bs N) (h : N ≤ N') : Enc w0 w ks ls v bs N' := ⟨E.1, E.2.1, E.2.2.1, E.2.2.2.1, Nat.le_trans E.2.2.2.2 h⟩
theorem Enc.len {A : Option Addr} {n c : Nat} (E : Enc w0 w ks ls (.slice A n c) bs N) : n ≤ N := E.own.len ▸ E.2.2.2.2
end

/-- append(v, x, ..) of bytes that are written out, at a step of a region that draws. -/
theorem append_enc {ops : Array Oper} {o : Oper} {a : Act} {w0 w : World} {K : Act → World → Prop} {Q : Exit → Act → World → Prop} {F : Prop} {ks ls : List (Nat × TypeId × List Value)} {cs : List Value} {A : Option Addr} {n c g m d N : Nat} {bs l : List UInt8}
    (hw : Region.wanted o (yielded ops a.tmps) = true) (s x : Operand)
    (ho : o.op = .call { callee := .builtin .append, args := #[s, x], argTypes := #[34, 34] })
    (hs : a.eval s = .slice A n c) (hx : a.eval x = .slice (some ⟨g, 0, none⟩) m d)
    (E : Enc w0 w ks ((g, 5, cs) :: ls) (.slice A n c) bs N) (hcs : cs = BV l) (hm : l.length = m) (hmd : m ≤ d) (hd : d ≤ 1000) (hN : N + m ≤ 1000)
    (h : ∀ A' n' c' w', Enc w0 w' ks ls (.slice A' n' c') (bs ++ l) (N + m) → K (a.put o.dst (.slice A' n' c')) w') :
    if Region.wanted o (yielded ops a.tmps) = true then Oper.wp Try.prog o a w K Q else F := by
  subst hcs
  have hb : Blk w g 5 (BV l) := (E.2.2.1 _ List.mem_cons_self).1
  have hn := E.len
  refine step_append_bytes hw s x ho A n c bs (some ⟨g, 0, none⟩) m d l hs hx w0.heap.size E.own (hb.rb hm hmd (by omega)) (by omega) E.size ?_
  intro A' n' c' w' hown hn' hg
  exact h _ _ _ _ (E.pop.gr hown hg (by rw [List.length_append, hm]; have := E.2.2.2.2; omega))
/-- append(v, x..) of bytes in a plain region. -/
theorem append_encL {ops : Array Oper} {rest : List Oper} {o : Oper} {a : Act} {w0 w : World} {Q : Exit → Act → World → Prop} {ks ls : List (Nat × TypeId × List Value)} {A B : Option Addr} {n c m d N : Nat} {bs l : List UInt8}
    (hw : Region.wanted o (yielded ops a.tmps) = true) (s x : Operand)
    (ho : o.op = .call { callee := .builtin .append, args := #[s, x], argTypes := #[34, 34] })
    (hs : a.eval s = .slice A n c) (hx : a.eval x = .slice B m d)
    (E : Enc w0 w ks ls (.slice A n c) bs N) (hr : RB w B m d l) (hN : N + m ≤ 1000)
    (h : ∀ A' n' c' w', Enc w0 w' ks ls (.slice A' n' c') (bs ++ l) (N + m) → wpList Try.prog ops Q rest (a.put o.dst (.slice A' n' c')) w') : wpList Try.prog ops Q (o :: rest) a w := by
  have hn := E.len
  refine append_bytes hw s x ho A n c bs B m d l hs hx w0.heap.size w E.own hr (by omega) (Below.refl _ _) E.size ?_
  intro A' n' c' w' hown hn' hB hg hat
  refine h _ _ _ _ (E.gr hown ⟨hg, hat.imp id (fun e k hk => by rw [e] at hk; cases hk; exact Nat.le_refl _)⟩ ?_)
  rw [List.length_append, hr.len]
  have := E.2.2.2.2
  omega
end Go.Proofs.Ytlobddhpkemklaa
