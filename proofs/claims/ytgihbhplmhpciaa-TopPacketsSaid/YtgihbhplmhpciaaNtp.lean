/- NTP headers: what they are, Check, and the bytes of fields of numbers.
  SEATS: ext guard -/
import Derived.Test.YtgihbhplmhpciaaRead
import Derived.Outline
namespace Go.Proofs.Ytgihbhplmhpciaa
open Go.RowKit
set_option linter.unusedVariables false

/-- A header. -/
structure Ntp where
  leap : Int
  version : Int
  mode : Int
  stratum : Int
  poll : Int
  prec : Int
  d1 : Int
  d2 : Int
  id : Int
  t1 : Int
  t2 : Int
  t3 : Int
  t4 : Int

def Ntp.cells (p : Ntp) : List Value := [.int .i64 p.leap, .int .i64 p.version, .int .i64 p.mode, .int .i64 p.stratum, .int .i64 p.poll, .int .i64 p.prec, .int .u32 p.d1, .int .u32 p.d2, .int .u32 p.id, .int .u64 p.t1, .int .u64 p.t2, .int .u64 p.t3, .int .u64 p.t4]
def Ntp.val (p : Ntp) : Value := .agg p.cells.toArray
def Ntp.zero : Ntp := ⟨0, 0, 0, 0, 0, 0, 0, 0, 0, 0, 0, 0, 0⟩

/-- The numbers are those of Go's types. -/
structure Ntp.In (p : Ntp) : Prop where
  leap : -9223372036854775808 ≤ p.leap ∧ p.leap ≤ 9223372036854775807
  version : -9223372036854775808 ≤ p.version ∧ p.version ≤ 9223372036854775807
  mode : -9223372036854775808 ≤ p.mode ∧ p.mode ≤ 9223372036854775807
  stratum : -9223372036854775808 ≤ p.stratum ∧ p.stratum ≤ 9223372036854775807
  poll : -9223372036854775808 ≤ p.poll ∧ p.poll ≤ 9223372036854775807
  prec : -9223372036854775808 ≤ p.prec ∧ p.prec ≤ 9223372036854775807
  d1 : 0 ≤ p.d1 ∧ p.d1 ≤ 4294967295
  d2 : 0 ≤ p.d2 ∧ p.d2 ≤ 4294967295
  id : 0 ≤ p.id ∧ p.id ≤ 4294967295
  t1 : 0 ≤ p.t1 ∧ p.t1 ≤ 18446744073709551615
  t2 : 0 ≤ p.t2 ∧ p.t2 ≤ 18446744073709551615
  t3 : 0 ≤ p.t3 ∧ p.t3 ≤ 18446744073709551615
  t4 : 0 ≤ p.t4 ∧ p.t4 ≤ 18446744073709551615

def inB (n lo hi : Int) : Bool := decide (lo ≤ n) && decide (n ≤ hi)
theorem inB_iff {n lo hi : Int} : inB n lo hi = true ↔ lo ≤ n ∧ n ≤ hi := by simp [inB]

def Ntp.ok (p : Ntp) : Bool := inB p.leap 0 3 && inB p.version 1 4 && inB p.mode 0 7 && inB p.stratum 0 255 && inB p.poll (-128) 127 && inB p.prec (-128) 127
def ntpCheck (p : Ntp) : Int := if p.ok then 0 else 3

theorem in_any (n lo hi : Int) (w : World) : Calls Try.prog 33 #[.int .i64 n, .int .i64 lo, .int .i64 hi] w fun e w' => e = .returned (.bool (inB n lo hi)) ∧ w = w' := by
  unfold inB
  go_enter Try.func33, Try.ntmps33
  go_wp2
  · go_ret
    have h : lo ≤ n := by assumption
    simp [h]
  · go_ret
    have h : n < lo := by assumption
    have h' : ¬ lo ≤ n := by omega
    simp [h']

set_option maxHeartbeats 1000000 in
theorem ntpCheck_any (p : Ntp) (w : World) : Calls Try.prog 20 #[p.val] w fun e w' => e = .returned (.int .i64 (ntpCheck p)) ∧ Below w.heap.size w w' := by
  obtain ⟨a0, a1, a2, a3, a4, a5, b0, b1, b2, c0, c1, c2, c3⟩ := p
  have hB : ∀ o, Below w.heap.size w (w.alloc o) := fun o => (Below.refl _ _).alloc (Nat.le_refl _) _
  unfold ntpCheck Ntp.ok Ntp.val Ntp.cells
  dsimp only
  cases e0 : inB a0 0 3
  · go_enter Try.func20, Try.ntmps20
    go_wp2_with (go_at_call 33; refine (in_any _ _ _ _).mono ?_; rintro e w2 ⟨rfl, rfl⟩)
    go_ret
    exact ⟨rfl, hB _⟩
  cases e1 : inB a1 1 4
  · go_enter Try.func20, Try.ntmps20
    go_wp2_with (go_at_call 33; refine (in_any _ _ _ _).mono ?_; rintro e w2 ⟨rfl, rfl⟩)
    go_ret
    exact ⟨rfl, hB _⟩
  cases e2 : inB a2 0 7
  · go_enter Try.func20, Try.ntmps20
    go_wp2_with (go_at_call 33; refine (in_any _ _ _ _).mono ?_; rintro e w2 ⟨rfl, rfl⟩)
    go_ret
    exact ⟨rfl, hB _⟩
  cases e3 : inB a3 0 255
  · go_enter Try.func20, Try.ntmps20
    go_wp2_with (go_at_call 33; refine (in_any _ _ _ _).mono ?_; rintro e w2 ⟨rfl, rfl⟩)
    go_ret
    exact ⟨rfl, hB _⟩
  cases e4 : inB a4 (-128) 127
  · go_enter Try.func20, Try.ntmps20
    go_wp2_with (go_at_call 33; refine (in_any _ _ _ _).mono ?_; rintro e w2 ⟨rfl, rfl⟩)
    go_ret
    exact ⟨rfl, hB _⟩
  cases e5 : inB a5 (-128) 127
  all_goals
    go_enter Try.func20, Try.ntmps20
    go_wp2_with (go_at_call 33; refine (in_any _ _ _ _).mono ?_; rintro e w2 ⟨rfl, rfl⟩)
    go_ret
    exact ⟨rfl, hB _⟩

/-- Numbers with the bytes that they have. -/
def pairs (l : List (Nat × Nat)) : List Value := l.flatMap fun x => [.int .u64 x.1, .int .i64 x.2]
theorem pairs_length : ∀ l : List (Nat × Nat), (pairs l).length = 2 * l.length
  | [] => rfl
  | x :: l => by
    have := pairs_length l
    simp only [pairs, List.flatMap_cons, List.length_append, List.length_cons, List.length_nil] at this ⊢
    omega
theorem pairs_get : ∀ (l : List (Nat × Nat)) (k : Nat) (x : Nat × Nat), l[k]? = some x → (pairs l)[k * 2]? = some (.int .u64 x.1) ∧ (pairs l)[k * 2 + 1]? = some (.int .i64 x.2)
  | [], k, x, h => by simp at h
  | y :: l, 0, x, h => by
    simp at h
    subst h
    exact ⟨rfl, rfl⟩
  | y :: l, k + 1, x, h => by
    have := pairs_get l k x (by simpa using h)
    rw [show (k + 1) * 2 = k * 2 + 1 + 1 by omega]
    exact this
def putBytes (l : List (Nat × Nat)) : List UInt8 := l.flatMap fun x => be x.1 x.2
theorem putBytes_snoc (l : List (Nat × Nat)) (k : Nat) (x : Nat × Nat) (h : l[k]? = some x) : putBytes (l.take (k + 1)) = putBytes (l.take k) ++ be x.1 x.2 := by
  rw [List.take_add_one, h]
  simp [putBytes, List.flatMap_append]
theorem putBytes_length : ∀ l : List (Nat × Nat), (∀ x ∈ l, x.2 ≤ 8) → (putBytes l).length ≤ 8 * l.length
  | [], _ => by simp [putBytes]
  | x :: l, h => by
    have h1 := putBytes_length l fun y hy => h y (by simp [hy])
    have h2 := h x (by simp)
    simp only [putBytes, List.flatMap_cons, List.length_append, be_length, List.length_cons] at h1 ⊢
    omega

set_option maxHeartbeats 1000000 in
theorem ntpPut_any (g : Nat) (l : List (Nat × Nat)) (n : Nat) (w : World) (hb : Blk w g 64 (pairs l)) (hn : l.length = n) (hn1 : n ≤ 1000) (hl : ∀ x ∈ l, 1 ≤ x.2 ∧ x.2 ≤ 8 ∧ x.1 < 256 ^ x.2) :
    Calls Try.prog 32 #[.slice (some ⟨g, 0, none⟩) n n] w fun e w' => ∃ A m c, e = .returned (.slice A m c) ∧ OwnB w' w.heap.size A m c (putBytes l) ∧ Below w.heap.size w w' := by
  have Hn := hide hn
  have Hl := hide hl
  clear hl hn
  go_enter Try.func32, Try.ntmps32
  go_wp2
  go_loopw [8, 3] (fun iv bv wr => ∃ (k : Nat) (A : Option Addr) (m c : Nat), k ≤ n ∧ iv = .int .i64 k ∧ bv = .slice A m c ∧ OwnB wr w.heap.size A m c (putBytes (l.take k)) ∧ Below w.heap.size w wr) (fun iv _ _ => n - (intOf iv).toNat)
  case atStart => exact ⟨0, none, 0, 0, Nat.zero_le _, rfl, rfl, World.ownsRow_nil _ _ _ _, Below.refl _ _⟩
  case round =>
    obtain ⟨k, A, m, c, hk, rfl, rfl, hown, hB⟩ := hrel
    by_cases hlt : k < n
    · obtain ⟨x, hx⟩ := get_some (l := l) (k := k) (by rw [Hn.out]; exact hlt)
      have hxb := Hl.out x (List.mem_of_getElem? hx)
      have hbr := hb.below' hB
      have c0 := hbr.cell (k * 2)
      have c1 := hbr.cell (k * 2 + 1)
      rw [(pairs_get l k x hx).1] at c0
      rw [(pairs_get l k x hx).2] at c1
      have hm : m ≤ 8000 := by
        have h1 := putBytes_length (l.take k) fun y hy => (Hl.out y (List.mem_of_mem_take hy)).2.1
        have h2 := hown.len
        rw [List.length_take] at h1
        omega
      have Hs := hide (putBytes_snoc l k x hx)
      have hr := hown.rb.alloc (.cells #[.int .u64 x.1, .int .i64 x.2] 64)
      have hB1 := hB.alloc hB.size (.cells #[.int .u64 x.1, .int .i64 x.2] 64)
      have hkI : (k : Int) < (n : Int) := by omega
      go_wp2_with fail
      refine (append_any A m c _ x.1 x.2 _ hr (by omega) (by omega) (by omega) (by simpa using Int.ofNat_lt.2 hxb.2.2) (by omega)).mono ?_
      rintro e w1 ⟨A1, n1, c1, rfl, hown1, hB2⟩
      rw [Int.toNat_natCast, Int.toNat_natCast, ← Hs.out] at hown1
      go_wp2
      exact ⟨⟨k + 1, A1, n1, c1, by omega, by go_num, rfl, hown1.mono hB1.size, below_step hB1 hB2 hB1.size⟩, by simp [intOf]; omega⟩
    · obtain rfl : k = n := by omega
      rw [List.take_of_length_le (by rw [Hn.out]; exact Nat.le_refl _)] at hown
      go_wp2
      go_ret
      exact ⟨A, m, c, rfl, hown, hB⟩
end Go.Proofs.Ytgihbhplmhpciaa
