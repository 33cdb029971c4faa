/- PTP messages: what they are, Size, the ranges.
  SEATS: ptp -/
import Derived.Test.YtlobddhpkemklaaBase
import Derived.Test.YtlobddhpkemklaaProg
import Derived.Outline
import Derived.KernelRfl
import Derived.Maps.Own
import Derived.Maps.OwnOps
namespace Go.Proofs.Ytlobddhpkemklaa
open Go.RowKit Go.Maps
set_option linter.unusedVariables false

/-- A message: its numbers in their order. -/
structure Ptp where
  kind : Int
  dom : Int
  flags : Int
  corr : Int
  clock : Int
  port : Int
  seq : Int
  logi : Int
  sec : Int
  nano : Int
  rclock : Int
  rport : Int
  utc : Int
  p1 : Int
  cls : Int
  acc : Int
  var : Int
  p2 : Int
  gm : Int
  steps : Int
  src : Int

def Ptp.cells (p : Ptp) : List Value := [.int .i64 p.kind, .int .i64 p.dom, .int .i64 p.flags, .int .i64 p.corr, .int .u64 p.clock, .int .i64 p.port, .int .i64 p.seq, .int .i64 p.logi, .int .i64 p.sec, .int .i64 p.nano, .int .u64 p.rclock, .int .i64 p.rport, .int .i64 p.utc, .int .i64 p.p1, .int .i64 p.cls, .int .i64 p.acc, .int .i64 p.var, .int .i64 p.p2, .int .u64 p.gm, .int .i64 p.steps, .int .i64 p.src]
def Ptp.val (p : Ptp) : Value := .agg p.cells.toArray
def Ptp.zero : Ptp := ⟨0, 0, 0, 0, 0, 0, 0, 0, 0, 0, 0, 0, 0, 0, 0, 0, 0, 0, 0, 0, 0⟩
/-- The numbers are those of Go's types. -/
structure Ptp.In (p : Ptp) : Prop where
  kind : -9223372036854775808 ≤ p.kind ∧ p.kind ≤ 9223372036854775807
  dom : -9223372036854775808 ≤ p.dom ∧ p.dom ≤ 9223372036854775807
  flags : -9223372036854775808 ≤ p.flags ∧ p.flags ≤ 9223372036854775807
  corr : -9223372036854775808 ≤ p.corr ∧ p.corr ≤ 9223372036854775807
  clock : 0 ≤ p.clock ∧ p.clock ≤ 18446744073709551615
  port : -9223372036854775808 ≤ p.port ∧ p.port ≤ 9223372036854775807
  seq : -9223372036854775808 ≤ p.seq ∧ p.seq ≤ 9223372036854775807
  logi : -9223372036854775808 ≤ p.logi ∧ p.logi ≤ 9223372036854775807
  sec : -9223372036854775808 ≤ p.sec ∧ p.sec ≤ 9223372036854775807
  nano : -9223372036854775808 ≤ p.nano ∧ p.nano ≤ 9223372036854775807
  rclock : 0 ≤ p.rclock ∧ p.rclock ≤ 18446744073709551615
  rport : -9223372036854775808 ≤ p.rport ∧ p.rport ≤ 9223372036854775807
  utc : -9223372036854775808 ≤ p.utc ∧ p.utc ≤ 9223372036854775807
  p1 : -9223372036854775808 ≤ p.p1 ∧ p.p1 ≤ 9223372036854775807
  cls : -9223372036854775808 ≤ p.cls ∧ p.cls ≤ 9223372036854775807
  acc : -9223372036854775808 ≤ p.acc ∧ p.acc ≤ 9223372036854775807
  var : -9223372036854775808 ≤ p.var ∧ p.var ≤ 9223372036854775807
  p2 : -9223372036854775808 ≤ p.p2 ∧ p.p2 ≤ 9223372036854775807
  gm : 0 ≤ p.gm ∧ p.gm ≤ 18446744073709551615
  steps : -9223372036854775808 ≤ p.steps ∧ p.steps ≤ 9223372036854775807
  src : -9223372036854775808 ≤ p.src ∧ p.src ≤ 9223372036854775807

def inB (n lo hi : Int) : Bool := decide (lo ≤ n) && decide (n ≤ hi)
theorem inB_iff {n lo hi : Int} : inB n lo hi = true ↔ lo ≤ n ∧ n ≤ hi := by simp [inB]

/-- The length of a kind. -/
def sizeOfKind (k : Int) : Int := if k = 0 ∨ k = 1 ∨ k = 8 then 44 else if k = 2 ∨ k = 3 ∨ k = 9 ∨ k = 10 then 54 else if k = 11 then 64 else 0
def isReq (k : Int) : Bool := k == 9 || (k == 3 || k == 10)
def controlOf (k : Int) : Int := if k = 0 then 0 else if k = 1 then 1 else if k = 8 then 2 else if k = 9 then 3 else 5
def stampOk (sec nano : Int) : Bool := !(decide (sec < 0) || decide (281474976710655 < sec) || decide (nano < 0) || decide (1000000000 ≤ nano))
def stampErr (sec nano : Int) : Int := if stampOk sec nano then 0 else 3

theorem wpList_insert_own {H : Type} {P : Program} (w : World) {ops : Array Oper} {rest : List Oper} {o : Oper} {a : Act} {Q : Exit → Act → World → Prop}
    (hg : o.guard = none) (m x v : Operand) (t : TypeId) (hop : o.op = Op.insert t m x v)
    (k e : TypeId) (K : Keyed P k) (ht : P.underlying t = some (.map k e)) (R : Value → Option (DataW H × List MemPlace)) (b n : Nat) (D : DataW H)
    (hm : a.eval m = .map (some b)) (hown : w.ownsMap P k R b n D) (hn : n < maxLen) (key val : Value) (kl : Lit) (hx : a.eval x = key) (hv : a.eval v = val) (hkey : keyOf P k key = some kl)
    (d : DataW H) (ps : List MemPlace) (hval : R val = some (d, ps))
    (hK : ∀ w', w'.ownsMap P k R b (n + 1) (D.put kl d) → w.grownBy w' (some b) → wpList P ops Q rest (a.put o.dst undef) w') :
    wpList P ops Q (o :: rest) a w := by
  refine wpList_plain hg fun K' hK' => ?_
  obtain ⟨w', hrun, r1, r2⟩ := hown.update K ht hn hkey hval
  unfold Oper.wp
  simp [execOp, hop, hm, hx, hv, hrun, Result.andThen]
  exact hK' _ _ (hK w' r1 r2)

theorem law_int : Keyed Try.prog 3 := int_keyed Try.underlying3
theorem zero_int (w : World) : (zeroValue 3).run Try.prog w = .ok (.int .i64 0) w := by kernel_rfl

/-- The map as it is made. -/
def sizesD : DataW Unit := .map [(.int .i64 0, .lit (.int .i64 44)), (.int .i64 1, .lit (.int .i64 44)), (.int .i64 2, .lit (.int .i64 54)), (.int .i64 3, .lit (.int .i64 54)), (.int .i64 8, .lit (.int .i64 44)), (.int .i64 9, .lit (.int .i64 54)), (.int .i64 10, .lit (.int .i64 54)), (.int .i64 11, .lit (.int .i64 64))]
def putN (D : DataW Unit) (k n : Int) : DataW Unit := D.put (.int .i64 k) (.lit (.int .i64 n))
theorem sizesD_eq : putN (putN (putN (putN (putN (putN (putN (putN (.map []) 0 44) 1 44) 2 54) 3 54) 8 44) 9 54) 10 54) 11 64 = sizesD := by kernel_rfl

set_option maxRecDepth 100000 in
theorem sizes_any (w : World) : Calls Try.prog 25 #[] w fun e w' => e = .returned (.map (some w.heap.size)) ∧ w'.ownsMap Try.prog 3 (plainElem (H := Unit) Try.prog 3) w.heap.size 8 sizesD ∧ Below w.heap.size w w' := by
  have hmm := @run_makeMap Try.prog
  have hown := World.ownsMap_made (H := Unit) w Try.prog 3 (plainElem (H := Unit) Try.prog 3)
  have hB := (Below.refl w.heap.size w).alloc (Nat.le_refl _) (.map #[] 0)
  go_enter Try.func25, Try.ntmps25
  go_wp2_with (refine wpList_insert_own _ rfl _ _ _ 49 rfl 3 3 law_int Try.underlying49 _ _ _ _ rfl hown (by unfold maxLen; omega) _ _ _ rfl rfl (keyOf_int_mk Try.underlying3 rfl) _ [] (plainElem_int Try.underlying3 rfl) ?_; intro w1 hown hgrow; have hB := hB.grown hgrow hB.size (fun j hj => by cases hj; exact Nat.le_refl _))
  go_ret
  exact ⟨rfl, sizesD_eq ▸ hown, hB⟩

theorem sizes_at (k : Int) : sizesD.atKey (.int .i64 k) (.lit (.int .i64 0)) = .lit (.int .i64 (sizeOfKind k)) := by
  by_cases h0 : k = 0
  · subst h0; kernel_rfl
  by_cases h1 : k = 1
  · subst h1; kernel_rfl
  by_cases h2 : k = 2
  · subst h2; kernel_rfl
  by_cases h3 : k = 3
  · subst h3; kernel_rfl
  by_cases h8 : k = 8
  · subst h8; kernel_rfl
  by_cases h9 : k = 9
  · subst h9; kernel_rfl
  by_cases h10 : k = 10
  · subst h10; kernel_rfl
  by_cases h11 : k = 11
  · subst h11; kernel_rfl
  have hs : sizeOfKind k = 0 := by unfold sizeOfKind; rw [if_neg (by omega), if_neg (by omega), if_neg (by omega)]
  rw [hs]
  have hn : ∀ z : Int, z ≠ k → (Lit.int .i64 z).sameKey (.int .i64 k) = false := by
    intro z hz
    simp [Lit.sameKey, hz]
  unfold sizesD DataW.atKey
  simp only [List.find?_cons, List.find?_nil, hn 0 (Ne.symm h0), hn 1 (Ne.symm h1), hn 2 (Ne.symm h2), hn 3 (Ne.symm h3), hn 8 (Ne.symm h8), hn 9 (Ne.symm h9), hn 10 (Ne.symm h10), hn 11 (Ne.symm h11)]

theorem size_any (k : Int) (w : World) (hk : -9223372036854775808 ≤ k ∧ k ≤ 9223372036854775807) :
    Calls Try.prog 11 #[.int .i64 k] w fun e w' => e = .returned (.int .i64 (sizeOfKind k)) ∧ Below w.heap.size w w' := by
  have hkw : (Lit.int .i64 k).wf = true := WalkArith.wf_i64 hk
  go_enter Try.func11, Try.ntmps11
  go_wp2_with (first
    | (go_at_call 25; refine (sizes_any _).mono ?_; rintro e w1 ⟨rfl, hown, hB1⟩)
    | (at_lookup; refine wpList_lookup_own_int _ rfl _ _ 49 rfl 3 3 .i64 law_int Try.underlying49 Try.underlying3 (zero_int _) w.heap.size 8 _ rfl hown _ _ rfl (keyOf_int_mk Try.underlying3 hkw) ?_; intro c hat hwc))
  go_ret
  rw [sizes_at] at hat
  injection hat with hat
  injection hat with _ hat
  rw [hat]
  exact ⟨rfl, hB1⟩

theorem within_any (n lo hi : Int) (w : World) : Calls Try.prog 43 #[.int .i64 n, .int .i64 lo, .int .i64 hi] w fun e w' => e = .returned (.bool (inB n lo hi)) ∧ w = w' := by
  unfold inB
  go_enter Try.func43, Try.ntmps43
  go_wp2
  · go_ret
    have h : lo ≤ n := by assumption
    simp [h]
  · go_ret
    have h : n < lo := by assumption
    have h' : ¬ lo ≤ n := by omega
    simp [h']

theorem requester_any (k : Int) (w : World) : Calls Try.prog 21 #[.int .i64 k] w fun e w' => e = .returned (.bool (isReq k)) ∧ w = w' := by
  unfold isReq
  by_cases h9 : k = 9
  · subst h9
    go_enter Try.func21, Try.ntmps21
    go_wp2
    go_ret
    exact ⟨rfl, rfl⟩
  have h9' : (k == 9) = false := by simpa using h9
  by_cases h3 : k = 3
  · subst h3
    go_enter Try.func21, Try.ntmps21
    go_wp2
    go_ret
    exact ⟨rfl, rfl⟩
  have h3' : (k == 3) = false := by simpa using h3
  go_enter Try.func21, Try.ntmps21
  go_wp2
  go_ret
  simp [h9', h3']

theorem control_any (k : Int) (w : World) : Calls Try.prog 27 #[.int .i64 k] w fun e w' => e = .returned (.int .i64 (controlOf k)) ∧ w = w' := by
  unfold controlOf
  by_cases h0 : k = 0
  · subst h0
    go_enter Try.func27, Try.ntmps27
    go_wp2
    go_ret
    exact ⟨rfl, rfl⟩
  have h0' : (k == 0) = false := by simpa using h0
  by_cases h1 : k = 1
  · subst h1
    go_enter Try.func27, Try.ntmps27
    go_wp2
    go_ret
    exact ⟨rfl, rfl⟩
  have h1' : (k == 1) = false := by simpa using h1
  by_cases h8 : k = 8
  · subst h8
    go_enter Try.func27, Try.ntmps27
    go_wp2
    go_ret
    exact ⟨rfl, rfl⟩
  have h8' : (k == 8) = false := by simpa using h8
  by_cases h9 : k = 9
  · subst h9
    go_enter Try.func27, Try.ntmps27
    go_wp2
    go_ret
    exact ⟨rfl, rfl⟩
  have h9' : (k == 9) = false := by simpa using h9
  rw [if_neg h0, if_neg h1, if_neg h8, if_neg h9]
  go_enter Try.func27, Try.ntmps27
  go_wp2
  go_ret
  exact ⟨rfl, rfl⟩

theorem stampCheck_any (sec nano : Int) (w : World) : Calls Try.prog 42 #[.agg #[.int .i64 sec, .int .i64 nano]] w fun e w' => e = .returned (.int .i64 (stampErr sec nano)) ∧ Below w.heap.size w w' := by
  have hB := (Below.refl w.heap.size w).alloc (Nat.le_refl _) (.cells #[.int .i64 sec, .int .i64 nano] 24)
  unfold stampErr stampOk
  by_cases h0 : sec < 0
  · rw [decide_eq_true h0]
    go_enter Try.func42, Try.ntmps42
    go_wp2
    go_ret
    exact ⟨rfl, hB⟩
  by_cases h1 : 281474976710655 < sec
  · rw [decide_eq_true h1]
    go_enter Try.func42, Try.ntmps42
    go_wp2
    go_ret
    simp [hB]
  by_cases h2 : nano < 0
  · rw [decide_eq_true h2]
    go_enter Try.func42, Try.ntmps42
    go_wp2
    go_ret
    simp [hB]
  by_cases h3 : 1000000000 ≤ nano
  · rw [decide_eq_true h3]
    go_enter Try.func42, Try.ntmps42
    go_wp2
    go_ret
    simp [hB]
  · rw [decide_eq_false h0, decide_eq_false h1, decide_eq_false h2, decide_eq_false h3]
    go_enter Try.func42, Try.ntmps42
    go_wp2
    go_ret
    exact ⟨rfl, hB⟩
end Go.Proofs.Ytlobddhpkemklaa
