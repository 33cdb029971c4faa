/- In a region that draws its order a call that only reads may be taken first.
  SEATS: ptp guard -/
import Derived.OrdersHeld
import Derived.Deep.RegionHeld3
namespace Go.Proofs.Ytlobddhpkemklaa
section
variable {P : Program} {ops : Array Oper} {Q : Exit → Act → World → Prop} {md : Region.Mode} {S : World → Prop}

/-- The operation is a call that in every world under S returns v and leaves the world as it is. -/
def CallIf (P : Program) (ops : Array Oper) (S : World → Prop) (o : Oper) (v : Value) (a : Act) : Prop :=
  Region.wanted o (yielded ops a.tmps) = true ∧ ∀ w, S w → ∃ f args, (execOp a.eval o).run P w = .ok (.enter f args) w ∧ Calls P f args w (fun e w' => e = .returned v ∧ w = w')

theorem CallIf.step {i : Nat} {o : Oper} {v : Value} {a : Act} (hi : ops[i]? = some o) (hy : CallIf P ops S o v a) {K : Act → World → Prop} {w : World} (hS : S w) (h : K (a.put o.dst v) w) : wpOp P ops Q i K a w := by
  obtain ⟨hw, hc⟩ := hy
  obtain ⟨f, args, hr, hcall⟩ := hc w hS
  unfold Go.wpOp
  rw [hi]
  simp only [hw, if_true]
  refine .inl ?_
  unfold Oper.wp
  rw [hr]
  refine Calls.mono hcall ?_
  rintro e w' ⟨rfl, rfl⟩
  exact h

/-- What every write of operation j keeps stands behind it. -/
theorem wpOp_keeps {j : Nat} {oj : Oper} {Y : Act → Prop} (hj : ops[j]? = some oj) (hp : ∀ a u, Y a → Y (a.put oj.dst u)) (hd : ∀ (a : Act) d, Y a → Y { a with defers := d :: a.defers })
    {K : Act → World → Prop} {a : Act} {w : World} (hy : Y a) (h : wpOp P ops Q j K a w) : wpOp P ops Q j (fun a' w' => Y a' ∧ K a' w') a w := by
  unfold wpOp at h ⊢
  rw [hj] at h ⊢
  by_cases hw : Region.wanted oj (yielded ops a.tmps) = true
  · simp only [hw, if_true] at h ⊢
    refine h.imp (fun h => ?_) id
    unfold Oper.wp at h ⊢
    generalize (execOp a.eval oj).run P w = r at h ⊢
    rcases r with ⟨n, w'⟩ | ⟨x, w'⟩
    · cases n
      case value u => exact ⟨hp a u hy, h⟩
      case skip => exact ⟨hp a undef hy, h⟩
      case defer d => exact ⟨hp _ undef (hd a d hy), h⟩
      case enter f args =>
        refine Calls.mono h fun e w'' he => ?_
        cases e with
        | returned u => exact ⟨hp a u hy, he⟩
        | panicked c => exact he
        | outgrown => exact he
      case row r args => exact Rows.mono h fun u w'' he => ⟨hp a u hy, he⟩
      all_goals exact h
    · cases x <;> exact h
  · simp only [hw] at h ⊢
    exact ⟨hp a undef hy, h⟩

theorem callFirst {i : Nat} {oi : Oper} {v : Value} (hi : ops[i]? = some oi) (hsel : ∀ (j : Nat) (o : Oper) cs b, ops[j]? = some o → o.op ≠ .select cs b)
    (hQ : ∀ c a w, Q (.panic c) (a.put oi.dst v) w → Q (.panic c) a w) : ∀ (fuel : Nat) (listed : Array Bool) (a : Act) (w : World),
      (∀ j oj, ops[j]? = some oj → j ≠ i → listed.getD j true = false → (∀ e ∈ oj.after, Region.binds md e = true → e.on ≠ i) → oi.apart ops oj = true) →
      i ∈ Region.ready md ops listed → CallIf P ops S oi v a → S w → wpAnyH P md ops Q S fuel (listed.setIfInBounds i true) (a.put oi.dst v) w → wpAnyH P md ops Q S (fuel + 1) listed a w := by
  have both : ∀ {listed : Array Bool} {k : Nat}, listed.getD k false = true → listed.getD k true = false → False := by
    intro listed k h1 h2
    by_cases hk : k < listed.size
    · simp [hk] at h1 h2
      rw [h1] at h2
      cases h2
    · simp [Array.getElem?_eq_none (Nat.le_of_not_lt hk)] at h1
  intro fuel
  induction fuel with
  | zero =>
    intro listed a w _ hr hy hS H
    refine ⟨fun h => absurd hr (by rw [h]; exact List.not_mem_nil), fun j hj => ?_⟩
    by_cases e : j = i
    · exact e ▸ hy.step hi hS ⟨hS, H⟩
    · exact absurd (ready_mono hj e) (by rw [H.1]; exact List.not_mem_nil)
  | succ n ih =>
    intro listed a w hfree hr hy hS H
    refine ⟨fun h => absurd hr (by rw [h]; exact List.not_mem_nil), fun j hj => ?_⟩
    by_cases e : j = i
    · exact e ▸ hy.step hi hS ⟨hS, H⟩
    obtain ⟨hju, oj, hoj, hall⟩ := mem_ready.1 hj
    have hap := hfree j oj hoj e hju (fun d hd hb q => both (q ▸ hall d hd hb) (mem_ready.1 hr).1)
    obtain ⟨p1, p2, p3⟩ := Oper.apart_spec hap
    -- the same slot, written by a constant: the kit's law puts that write ahead of j
    have hap' : Oper.apart ops ⟨oi.dst, .move (.const v), oi.type, oi.pos, oi.after, none⟩ oj = true := by
      have q : Oper.looksAt ops ⟨oi.dst, .move (.const v), oi.type, oi.pos, oi.after, none⟩ = [] := rfl
      unfold Oper.apart at hap ⊢
      rw [q]
      simp only [Bool.and_eq_true] at hap ⊢
      refine ⟨hap.1, ?_⟩
      split <;> rfl
    have hyx : YieldsIf P ops S ⟨oi.dst, .move (.const v), oi.type, oi.pos, oi.after, none⟩ v a := .inl ⟨rfl, fun w _ => rfl⟩
    have h2 := wpOp_putIf hoj hap' (fun cs b h => by cases h) (fun cs b => hsel j oj cs b hoj) hQ hyx (H.2 j (ready_mono hj e))
    have h3 := wpOp_keeps (Y := CallIf P ops S oi v) hoj (fun a u h => ⟨by rw [wanted_put oi a oj.dst u p3]; exact h.1, by rw [execOp_put oi (fun cs b => hsel i oi cs b hi) a oj.dst u p3]; exact h.2⟩) (fun _ _ h => h) hy h2
    refine wpOp_mono (fun a' w' q => ⟨q.2.2.1, ih _ a' w' (fun k ok hk hki hun hno => hfree k ok hk hki ?_ hno) (ready_mono hr (Ne.symm e)) q.1 q.2.2.1 ?_⟩) h3
    · by_cases hjk : j = k
      · exact hjk ▸ hju
      · rwa [getD_set_ne true hjk] at hun
    · rw [Array.setIfInBounds_comm _ _ e]
      exact q.2.2.2

/-- Take the call number i first. -/
theorem callTake {i : Nat} {oi : Oper} {v : Value} {fuel : Nat} {listed : Array Bool} {a : Act} {w : World} (hi : ops[i]? = some oi)
    (hs : Region.noSelect ops = true) (hf : Region.free md ops listed i = true) (hr : (Region.ready md ops listed).contains i = true)
    (hQ : ∀ c a w, Q (.panic c) (a.put oi.dst v) w → Q (.panic c) a w) (hg : oi.guard = none) (f : FuncId) (args : Array Value) (hop : ∀ w, (execOp a.eval oi).run P w = .ok (.enter f args) w)
    (hc : ∀ w, S w → Calls P f args w (fun e w' => e = .returned v ∧ w = w')) (hS : S w)
    (h : wpAnyH P md ops Q S fuel (listed.setIfInBounds i true) (a.put oi.dst v) w) : wpAnyH P md ops Q S (fuel + 1) listed a w :=
  callFirst hi (Region.noSelect_spec hs) hQ fuel listed a w (fun j oj => Region.free_spec hi hf j oj) (by simpa using hr) ⟨by unfold Region.wanted; rw [hg], fun w hS => ⟨f, args, hop w, hc w hS⟩⟩ hS h
end
end Go.Proofs.Ytlobddhpkemklaa
