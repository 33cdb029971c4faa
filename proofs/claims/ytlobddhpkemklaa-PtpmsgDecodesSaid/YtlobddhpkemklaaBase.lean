/- Plain words: bytes in memory, big-endian numbers; no program in sight. -/
import Derived.WalkKit
import Derived.Laws.IdiomCopy
import Derived.Laws.CopyOwn
import Derived.Laws.MakeOwn
import Derived.Maps.AppendAt
import Derived.Laws.Rows
import Derived.Deep.Draws
namespace Go.Proofs.Ytlobddhpkemklaa
open Go.RowKit

theorem hide {p : Prop} (h : p) : Hid p := h

/-- A list of bytes as cells. -/
def BV (bs : List UInt8) : List Value := bs.map fun b => .int .u8 (b.toNat : Int)

theorem BV_length (bs : List UInt8) : (BV bs).length = bs.length := by simp [BV]
theorem BV_append (a b : List UInt8) : BV (a ++ b) = BV a ++ BV b := by simp [BV]
theorem BV_get (bs : List UInt8) (i : Nat) : (BV bs)[i]? = bs[i]?.map fun b => Value.int .u8 (b.toNat : Int) := by simp [BV]
theorem BV_one (bs : List UInt8) : ∀ u ∈ BV bs, u.oneCell' = true := by
  intro u hu
  obtain ⟨b, _, rfl⟩ := List.mem_map.1 hu
  rfl

/-- The slice at A, of n elements and the capacity c, reads as the bytes bs. -/
structure RB (w : World) (A : Option Addr) (n c : Nat) (bs : List UInt8) : Prop where
  len : bs.length = n
  cap : n ≤ c
  max : c ≤ 9223372036854775807
  cells : 0 < n → ∃ b o, A = some ⟨b, o, none⟩ ∧ b < w.heap.size ∧ ∀ j u, (BV bs)[j]? = some u → w.cell? ⟨b, o + j, none⟩ = some u

theorem RB.below {w w' : World} {A : Option Addr} {n c : Nat} {bs : List UInt8} (h : RB w A n c bs) (hb : Below w.heap.size w w') : RB w' A n c bs :=
  ⟨h.len, h.cap, h.max, fun hn => by
    obtain ⟨b, o, hA, hlt, hc⟩ := h.cells hn
    exact ⟨b, o, hA, Nat.lt_of_lt_of_le hlt hb.size, fun j u hu => (hb.cell (p := ⟨b, o + j, none⟩) hlt).trans (hc j u hu)⟩⟩

theorem RB.nil (w : World) : RB w none 0 0 [] := ⟨rfl, Nat.le_refl _, by omega, fun h => absurd h (by omega)⟩

theorem RB.alloc {w : World} {A : Option Addr} {n c : Nat} {bs : List UInt8} (h : RB w A n c bs) (o : Obj) : RB (w.alloc o) A n c bs :=
  h.below ((Below.refl _ w).alloc (Nat.le_refl _) o)

/-- The low bytes of a number, the highest first. -/
def be (n : Nat) : Nat → List UInt8
  | 0 => []
  | k + 1 => UInt8.ofNat (n / 256 ^ k) :: be n k

theorem be_length (n : Nat) : ∀ k, (be n k).length = k
  | 0 => rfl
  | k + 1 => by simp [be, be_length n k]

theorem be_get (n : Nat) : ∀ (k i : Nat), i < k → (be n k)[i]? = some (UInt8.ofNat (n / 256 ^ (k - 1 - i)))
  | k + 1, 0, _ => by simp [be]
  | k + 1, i + 1, h => by
    rw [be, List.getElem?_cons_succ, be_get n k i (by omega), show k + 1 - 1 - (i + 1) = k - 1 - i by omega]


/-- The number of some bytes, the highest first. -/
def ofBe (l : List UInt8) : Nat := l.foldl (fun n b => n * 256 + b.toNat) 0

theorem ofBe_snoc (l : List UInt8) (b : UInt8) : ofBe (l ++ [b]) = ofBe l * 256 + b.toNat := by simp [ofBe]

theorem ofBe_lt' : ∀ (r : List UInt8), ofBe r.reverse < 256 ^ r.length
  | [] => by simp [ofBe]
  | b :: r => by
    have := ofBe_lt' r
    have hb := b.toNat_lt
    rw [List.reverse_cons, ofBe_snoc, List.length_cons, Nat.pow_succ]
    omega

theorem ofBe_lt (l : List UInt8) : ofBe l < 256 ^ l.length := by
  have := ofBe_lt' l.reverse
  simpa using this

theorem ofBe_le {l : List UInt8} {k : Nat} (h : l.length ≤ k) : ofBe l < 256 ^ k :=
  Nat.lt_of_lt_of_le (ofBe_lt l) (Nat.pow_le_pow_right (by omega) h)

/-- Some bytes from a place on. -/
def sub (bs : List UInt8) (at_ n : Nat) : List UInt8 := (bs.drop at_).take n

theorem sub_zero (bs : List UInt8) (a : Nat) : sub bs a 0 = [] := rfl
/-- One byte. -/
def nth (bs : List UInt8) (i : Nat) : UInt8 := bs.getD i 0
theorem nth_get {bs : List UInt8} {i : Nat} (h : i < bs.length) : bs[i]? = some (nth bs i) := by
  simp [nth, List.getElem?_eq_getElem h]
theorem sub_succ (bs : List UInt8) (a k : Nat) (h : a + k < bs.length) : sub bs a (k + 1) = sub bs a k ++ [nth bs (a + k)] := by
  unfold sub
  rw [List.take_add_one, List.getElem?_drop, nth_get h]
  rfl
theorem sub_length (bs : List UInt8) (a k : Nat) (h : a + k ≤ bs.length) : (sub bs a k).length = k := by
  simp [sub]
  omega
theorem sub_sub0 (bs : List UInt8) (p k : Nat) : sub (sub bs p k) 0 k = sub bs p k := by simp [sub, List.take_take]
theorem sub_all (bs : List UInt8) : sub bs 0 bs.length = bs := by simp [sub]

theorem RB.at_ {w : World} {A : Option Addr} {n c : Nat} {bs : List UInt8} (h : RB w A n c bs) (i : Nat) (hi : i < bs.length) :
    ∃ b o, A = some ⟨b, o, none⟩ ∧ w.cell? ⟨b, o + i, none⟩ = some (.int .u8 ((nth bs i).toNat : Int)) := by
  obtain ⟨b, o, hA, _, hc⟩ := h.cells (by have := h.len; omega)
  refine ⟨b, o, hA, hc i _ ?_⟩
  rw [BV_get, nth_get hi]
  rfl

theorem or_snoc (n x : Nat) (hn : n < 256 ^ 7) (hx : x < 256) : bits .or .u64 ((n : Int) * 256) (x : Int) = ((n * 256 + x : Nat) : Int) := by
  have h := u64_or_nat (n * 256) x (by omega) (by omega)
  rw [Int.natCast_mul] at h
  rw [show (256 : Int) = ((256 : Nat) : Int) from rfl, h]
  congr 1
  have := Nat.two_pow_add_eq_or_of_lt (i := 8) hx n
  rw [show n * 256 = 2 ^ 8 * n by omega]
  exact this.symm

/-! ### Memory that the call itself has made -/
/-- Block g holds just these cells, of element type t; none is frozen. -/
def Blk (w : World) (g : Nat) (t : TypeId) (cs : List Value) : Prop := w.heap[g]? = some (.cells cs.toArray t (0, 0))

section
variable {w w' : World} {g : Nat} {t : TypeId} {cs : List Value}
theorem Blk.lt (h : Blk w g t cs) : g < w.heap.size := (Array.getElem?_eq_some_iff.1 h).1
theorem Blk.cell (h : Blk w g t cs) (i : Nat) : w.cell? ⟨g, i, none⟩ = cs[i]? := by
  have := cell_of_row w g i cs.toArray t (0, 0) h
  simpa using this
theorem Blk.frozen (h : Blk w g t cs) (i : Nat) : w.frozen? ⟨g, i, none⟩ = false := by
  unfold Blk at h
  simp [World.frozen?, h]
theorem Blk.new (w : World) (t : TypeId) (cs : List Value) : Blk (w.alloc (.cells cs.toArray t)) w.heap.size t cs := heap_alloc_new w _
theorem Blk.alloc (h : Blk w g t cs) (o : Obj) : Blk (w.alloc o) g t cs := (Below.heap_alloc w o g h.lt).trans h
theorem Blk.set_ (h : Blk w g t cs) (i : Nat) (u : Value) : Blk (w.setCell ⟨g, i, none⟩ u) g t (cs.set i u) := by
  unfold Blk at h ⊢
  simp [World.setCell, Array.getElem?_modify, h]
theorem Blk.far (h : Blk w g t cs) {p : Addr} (hp : g ≠ p.block) (u : Value) : Blk (w.setCell p u) g t cs := (Below.heap_setCell w p u g hp).trans h
theorem Blk.below {B : Nat} (h : Blk w g t cs) (hb : Below B w w') (hg : g < B) : Blk w' g t cs := (hb.block g hg).trans h
theorem Blk.below' (h : Blk w g t cs) (hb : Below w.heap.size w w') : Blk w' g t cs := (hb.block g h.lt).trans h
theorem Blk.grown {row : Option Nat} (h : Blk w g t cs) (hb : w.grownBy w' row) (hg : some g ≠ row) : Blk w' g t cs := (hb.block g h.lt hg).trans h
/-- A block of bytes reads as them. -/
theorem Blk.rb {bs : List UInt8} {n c : Nat} (h : Blk w g t (BV bs)) (hn : bs.length = n) (hc : n ≤ c) (hm : c ≤ 9223372036854775807) : RB w (some ⟨g, 0, none⟩) n c bs :=
  ⟨hn, hc, hm, fun _ => ⟨g, 0, rfl, h.lt, fun j u hu => by rw [h.cell, Nat.zero_add, hu]⟩⟩
end

/-- What the call owns reads as it is. -/
theorem RB.of_own {w : World} {base e m c : Nat} {A : Option Addr} {bs : List UInt8} (h : w.ownsRow base e 1 (.slice A m c) m (BV bs)) : RB w A m c bs := by
  have hl : bs.length = m := by have := h.1; rw [BV_length] at this; omega
  rcases h.2 with ⟨he, h0⟩ | ⟨g, cap, cur, he, hb, hh, hn, hc, hs, ht⟩
  · injection he with e1 e2 e3
    exact ⟨hl, by omega, by omega, fun hp => by omega⟩
  · injection he with e1 e2 e3
    subst e1 e3
    refine ⟨hl, hn, by simpa [maxLen] using hc, fun _ => ⟨g, 0, rfl, (Array.getElem?_eq_some_iff.1 hh).1, fun j u hu => ?_⟩⟩
    have := h.cells (g := g) rfl j u hu
    rwa [Addr.add_lit] at this

/-- A block that is known whole, as a row of the call's own. -/
theorem own_of_blk {w : World} {base g e n : Nat} {xs : List Value} (h : Blk w g e xs) (hn : xs.length = n) (hb : base ≤ g) (hm : n ≤ 9223372036854775807) : w.ownsRow base e 1 (.slice (some ⟨g, 0, none⟩) n n) n xs :=
  ⟨by omega, .inr ⟨g, n, xs.toArray, rfl, hb, h, Nat.le_refl _, by simpa [maxLen] using hm, by simp [hn], by rw [Nat.mul_one]; exact List.take_of_length_le (by simp [hn])⟩⟩

theorem own_base {w : World} {base e size n : Nat} {v : Value} {xs : List Value} (h : w.ownsRow base e size v n xs) : ∀ k, v.ownBlock = some k → base ≤ k := fun k hk => (h.lt k hk).1
theorem own_mono {w : World} {base base' e size n : Nat} {v : Value} {xs : List Value} (h : w.ownsRow base e size v n xs) (hb : base' ≤ base) : w.ownsRow base' e size v n xs := by
  refine ⟨h.1, ?_⟩
  rcases h.2 with h2 | ⟨g, cap, cur, he, hg, r⟩
  · exact .inl h2
  · exact .inr ⟨g, cap, cur, he, Nat.le_trans hb hg, r⟩
theorem grown_of_below {w w1 : World} (h : Below w.heap.size w w1) (row : Option Nat) : w.grownBy w1 row := ⟨h.os, h.tape, h.output, h.size, fun i hi _ => h.block i hi⟩
theorem own_below {w w1 : World} {base e size n : Nat} {v : Value} {xs : List Value} (h : w.ownsRow base e size v n xs) (hb : Below w.heap.size w w1) : w1.ownsRow base e size v n xs :=
  h.kept (grown_of_below hb none) (by cases v.ownBlock <;> simp)
/-- Rows of different element types lie in different blocks. -/
theorem own_ne {w : World} {b b' e e' s s' n n' : Nat} {v v' : Value} {xs xs' : List Value} (h : w.ownsRow b e s v n xs) (h' : w.ownsRow b' e' s' v' n' xs') (hne : e ≠ e') : v.ownBlock = none ∨ v.ownBlock ≠ v'.ownBlock := by
  rcases h.2 with ⟨rfl, _⟩ | ⟨g, cap, cur, rfl, _, hh, _⟩
  · exact .inl rfl
  · refine .inr fun hk => ?_
    rcases h'.2 with ⟨rfl, _⟩ | ⟨g', cap', cur', rfl, _, hh', _⟩
    · simp [Value.ownBlock] at hk
    · have : g = g' := by simpa [Value.ownBlock] using hk
      subst this
      rw [hh] at hh'
      injection hh' with hh'
      injection hh' with _ ht
      exact hne ht

/-- Bytes of the call's own: from block base on. -/
def OwnB (w : World) (base : Nat) (A : Option Addr) (n c : Nat) (bs : List UInt8) : Prop := w.ownsRow base 5 1 (.slice A n c) n (BV bs)
theorem OwnB.rb {w : World} {base n c : Nat} {A : Option Addr} {bs : List UInt8} (h : OwnB w base A n c bs) : RB w A n c bs := RB.of_own h
theorem OwnB.len {w : World} {base n c : Nat} {A : Option Addr} {bs : List UInt8} (h : OwnB w base A n c bs) : bs.length = n := h.rb.len
theorem OwnB.below {w w' : World} {base n c : Nat} {A : Option Addr} {bs : List UInt8} (h : OwnB w base A n c bs) (hb : Below w.heap.size w w') : OwnB w' base A n c bs := own_below h hb
theorem OwnB.mono {w : World} {base base' n c : Nat} {A : Option Addr} {bs : List UInt8} (h : OwnB w base A n c bs) (hb : base' ≤ base) : OwnB w base' A n c bs := own_mono h hb
theorem OwnB.alloc {w : World} {base n c : Nat} {A : Option Addr} {bs : List UInt8} (h : OwnB w base A n c bs) (o : Obj) : OwnB (w.alloc o) base A n c bs := World.ownsRow.alloc h o
theorem OwnB.empty (w : World) (base : Nat) (hb : base ≤ w.heap.size) : OwnB (w.alloc (.cells #[] 5)) base (some ⟨w.heap.size, 0, none⟩) 0 0 [] := World.ownsRow_made w #[] 0 hb (by simp [maxLen]) rfl
theorem OwnB.of_blk {w : World} {base g n : Nat} {bs : List UInt8} (h : Blk w g 5 (BV bs)) (hn : bs.length = n) (hb : base ≤ g) (hm : n ≤ 9223372036854775807) : OwnB w base (some ⟨g, 0, none⟩) n n bs :=
  own_of_blk h (by rw [BV_length]; exact hn) hb hm
theorem OwnB.cast {w : World} {base n c : Nat} {A : Option Addr} {bs bs' : List UInt8} (h : OwnB w base A n c bs) (e : bs = bs') : OwnB w base A n c bs' := e ▸ h

theorem below_drewN (w : World) (q : Nat) : Below w.heap.size w (w.drewN q) := ⟨rfl, rfl, rfl, Nat.le_refl _, fun _ _ => rfl⟩
theorem list_of {α : Type} {P : Nat → α → Prop} : ∀ n : Nat, (∀ i, i < n → ∃ e, P i e) → ∃ l : List α, l.length = n ∧ ∀ j e, l[j]? = some e → P j e
  | 0, _ => ⟨[], rfl, fun j e h => by simp at h⟩
  | n + 1, h => by
    obtain ⟨l, hl, hp⟩ := list_of n (fun i hi => h i (by omega))
    obtain ⟨e, he⟩ := h n (by omega)
    refine ⟨l ++ [e], by simp [hl], fun j e' hj => ?_⟩
    by_cases hjn : j < n
    · rw [List.getElem?_append_left (by omega)] at hj
      exact hp j e' hj
    · have hj' := (List.getElem?_eq_some_iff.1 hj).1
      simp only [List.length_append, List.length_cons, List.length_nil] at hj'
      obtain rfl : j = n := by omega
      rw [List.getElem?_append_right (by omega), hl, Nat.sub_self] at hj
      injection hj with hj
      subst hj
      exact he
theorem get_some {α : Type} {l : List α} {k : Nat} (h : k < l.length) : ∃ e, l[k]? = some e := ⟨_, List.getElem?_eq_getElem h⟩

theorem grown_setCell (w : World) (g i : Nat) (u : Value) : w.grownBy (w.setCell ⟨g, i, none⟩ u) (some g) :=
  ⟨rfl, rfl, rfl, by simp [World.setCell], fun k _ hk => Below.heap_setCell w _ u k (fun e => hk (by rw [e]))⟩
theorem below_step {B : Nat} {w0 w w' : World} (h : Below B w0 w) (k : Below w.heap.size w w') (hB : B ≤ w.heap.size) : Below B w0 w' := h.trans (k.mono hB)

section
variable {P : Program} {ops : Array Oper} {rest : List Oper} {o : Oper} {a : Act} {Q : Exit → Act → World → Prop} {w : World}
/-- string(b). -/
theorem RB.convert {A : Option Addr} {m c : Nat} {bs : List UInt8} (h : RB w A m c bs) (src e dst : TypeId) (hs : P.underlying src = some (.slice e)) (he : P.underlying e = some (.int .u8)) (hd : P.underlying dst = some .string) :
    (Go.convert src dst (.slice A m c)).run P w = .ok (.string ⟨bs.toArray⟩) w := by
  have hmap : (bs.map fun b => (b.toNat : Int)).map (fun n => UInt8.ofNat n.toNat) = bs := by
    rw [List.map_map]
    exact (List.map_congr_left fun b _ => by simp).trans (List.map_id bs)
  rcases Nat.eq_zero_or_pos m with h0 | h0
  · subst h0
    obtain rfl : bs = [] := List.eq_nil_of_length_eq_zero h.len
    rw [run_convert_bytes_string w src dst e _ 0 c hs he hd]
    cases A <;> simp [Conv.bytesToString, loadCells]
    all_goals rfl
  · obtain ⟨b, o, rfl, _, hc⟩ := h.cells h0
    have := run_convert_bytes_arg (P := P) w src e hs he b o m c (bs.map fun b => (b.toNat : Int)) (by simpa using h.len) (fun i hi => by
      have hb : i < bs.length := by have := h.len; omega
      rw [hc i (.int .u8 ((nth bs i).toNat : Int)) (by rw [BV_get, nth_get hb]; rfl)]
      simp [nth, List.getElem?_eq_getElem hb]) dst hd
    rw [this]
    simp only [strOfNums, hmap]

theorem wpList_wanted (hw : Region.wanted o (yielded ops a.tmps) = true) (h : ∀ K : Act → World → Prop, (∀ a w, wpList P ops Q rest a w → K a w) → o.wp P a w K Q) : wpList P ops Q (o :: rest) a w :=
  wpList_step fun K hK => by rw [if_pos hw]; exact h K hK

/-- make([]T, n) of one-cell elements: a new block of zeros. -/
theorem wpList_make_b (hgd : Region.wanted o (yielded ops a.tmps) = true) (x : Operand) (t : TypeId) (ho : o.op = .makeSlice t x x) (e : TypeId) (i : TypeInfo) (z : Value) (bytes : Nat)
    (ht : P.underlying t = some (.slice e)) (hi : P.info? e = some i) (hz : i.zero = some z) (hsz : i.size = 1) (hby : i.bytes = bytes) (hzc : z.cells = #[z])
    (n : Nat) (v : Int) (hx : a.eval x = .int .i64 v) (hv : v = n) (hn : n * bytes ≤ 281474976710656) (hb0 : 0 < bytes) (B : Nat) (w0 : World) (hb : Below B w0 w) (hB : B ≤ w.heap.size)
    (h : ∀ w', Blk w' w.heap.size e (List.replicate n z) → Below B w0 w' → Below w.heap.size w w' → w'.heap.size = w.heap.size + 1 → wpList P ops Q rest (a.put o.dst (.slice (some ⟨w.heap.size, 0, none⟩) n n)) w') : wpList P ops Q (o :: rest) a w := by
  subst hv
  have hn1 : n ≤ 281474976710656 := Nat.le_trans (Nat.le_mul_of_pos_right _ hb0) hn
  have hbn : (i.bytes : Int) * (n : Int) ≤ 281474976710656 := by
    have h : ((i.bytes * n : Nat) : Int) ≤ 281474976710656 := by rw [hby, Nat.mul_comm]; omega
    rwa [Int.natCast_mul] at h
  have hr : (Instr.makeSlice t (.int .i64 (n : Int)) (.int .i64 (n : Int))).run P w = .ok (.slice (some ⟨w.heap.size, 0, none⟩) n n) (w.alloc (.cells (List.replicate n z).toArray e)) := by
    have h1 := run_make (P := P) w t e i z ht hi hz .i64 .i64 n n (by omega) (by omega) hbn (by omega)
    simp only [Int.toNat_natCast, hzc, hsz, Nat.mul_one] at h1
    rwa [show madeCells #[z] n = (List.replicate n z).toArray by rw [← toList_madeCells_one z n]] at h1
  refine wpList_wanted hgd fun K hK => ?_
  unfold Oper.wp execOp
  simp only [ho, hx, hr, Sem.run_bind, Sem.run_pure, Result.andThen_ok]
  exact hK _ _ (h _ (Blk.new w e _) (hb.alloc hB _) ((Below.refl _ w).alloc (Nat.le_refl _) _) (by simp))

/-- Cells that are read from a slice: m elements of some size. -/
def Src (w : World) (A : Option Addr) (m : Nat) (news : List Value) : Prop := 0 < m → ∃ ad, A = some ad ∧ ∀ j u, news[j]? = some u → w.cell? (ad.add j) = some u

theorem RB.src {w : World} {A : Option Addr} {m c : Nat} {bs : List UInt8} (h : RB w A m c bs) : Src w A m (BV bs) := fun hm => by
  obtain ⟨b, o, hA, _, hc⟩ := h.cells hm
  exact ⟨_, hA, fun j u hu => by rw [Addr.add_lit]; exact hc j u hu⟩
theorem Blk.src {g t : Nat} {cs : List Value} {m : Nat} (h : Blk w g t cs) : Src w (some ⟨g, 0, none⟩) m cs := fun _ => ⟨_, rfl, fun j u hu => by rw [Addr.add_lit, Nat.zero_add, h.cell]; exact hu⟩

theorem run_append_all (base : Nat) (t ty e : TypeId) (i : TypeInfo) (z : Value) (size bytes : Nat) (ht : P.underlying t = some (.slice e)) (hi : P.info? e = some i) (hz : i.zero = some z)
    (hsz : i.size = size) (hby : i.bytes = bytes) (hzc : z.cells.size = size) (hs0 : 0 < size)
    (v : Value) (n : Nat) (xs : List Value) (hown : w.ownsRow base e size v n xs) (A : Option Addr) (m c : Nat) (news : List Value) (hl : news.length = m * size) (hsrc : Src w A m news) (h1 : ∀ u ∈ news, u.oneCell' = true)
    (hmax : n + m ≤ 9223372036854775807) (hbytes : (n + m) * bytes ≤ 140737488355328) (hbase : base ≤ w.heap.size) (hnil : m = 0 → c = c) :
    ∃ A' c' w', (Builtin.append_ #[t, t] ty #[v, .slice A m c]).run P w = .ok (.slice A' (n + m) c') w' ∧ w'.ownsRow base e size (.slice A' (n + m) c') (n + m) (xs ++ news) ∧ w.grownBy w' v.ownBlock ∧
      ((Value.slice A' (n + m) c').ownBlock = v.ownBlock ∨ (Value.slice A' (n + m) c').ownBlock = some w.heap.size) := by
  have shape : ∀ {v' : Value} {w' : World} {k : Nat} {ys : List Value}, w'.ownsRow base e size v' k ys → ∃ A' c', v' = .slice A' k c' := by
    intro v' w' k ys h
    rcases h.2 with ⟨rfl, rfl⟩ | ⟨g, cap, cur, rfl, _⟩
    · exact ⟨none, 0, rfl⟩
    · exact ⟨_, cap, rfl⟩
  by_cases hm : m = 0
  · subst hm
    obtain rfl : news = [] := List.eq_nil_of_length_eq_zero (by simpa using hl)
    obtain ⟨A', c', rfl⟩ := shape hown
    refine ⟨A', c', w, ?_, by simpa using hown, World.grownBy.refl w _, .inl rfl⟩
    rcases hown.2 with ⟨he, hn⟩ | ⟨g, cap, cur, he, _, _, hnc, _⟩
    · injection he with e1 e2 e3
      subst e1 e2 e3
      cases A <;> simp [Builtin.append_, run_underlying ht, sizeOf, typeInfo, hi, Builtin.lenOf, Builtin.firstCells, loadCells, loadCellsFrom]
    · injection he with e1 e2 e3
      subst e1 e3
      cases A <;> simp [Builtin.append_, run_underlying ht, sizeOf, typeInfo, hi, Builtin.lenOf, Builtin.firstCells, hnc, storeCells, loadCells, loadCellsFrom]
  · obtain ⟨ad, rfl, hcells⟩ := hsrc (by omega)
    obtain ⟨v', w', hrun, h2, h3, _, h5⟩ := run_append_own_at (P := P) w base t ty e i z size bytes ht hi hz hsz hby hzc hs0 v n xs hown ad m c news hl hcells h1 (by simpa [maxLen] using hmax) hbytes hbase
    obtain ⟨A', c', rfl⟩ := shape h2
    exact ⟨A', c', w', hrun, h2, h3, h5⟩

/-- append(v, x...): v a row of the call's own, x read. -/
theorem wpList_append_b (hgd : Region.wanted o (yielded ops a.tmps) = true) (s x : Operand) (t : TypeId) (ho : o.op = .call { callee := .builtin .append, args := #[s, x], argTypes := #[t, t] }) (e : TypeId) (i : TypeInfo) (z : Value) (size bytes : Nat)
    (ht : P.underlying t = some (.slice e)) (hi : P.info? e = some i) (hz : i.zero = some z) (hsz : i.size = size) (hby : i.bytes = bytes) (hzc : z.cells.size = size) (hs0 : 0 < size)
    (v : Value) (n : Nat) (xs : List Value) (A : Option Addr) (m c : Nat) (news : List Value) (hs : a.eval s = v) (hx : a.eval x = .slice A m c) (base : Nat) (w0 : World)
    (hown : w.ownsRow base e size v n xs) (hsrc : Src w A m news) (hl : news.length = m * size) (h1 : ∀ u ∈ news, u.oneCell' = true)
    (hmax : n + m ≤ 9223372036854775807) (hbytes : (n + m) * bytes ≤ 140737488355328) (hb : Below base w0 w) (hbase : base ≤ w.heap.size)
    (h : ∀ A' N c' w', w'.ownsRow base e size (.slice A' N c') N (xs ++ news) → Hid (N = n + m) → Below base w0 w' → w.grownBy w' v.ownBlock →
      ((Value.slice A' N c').ownBlock = v.ownBlock ∨ (Value.slice A' N c').ownBlock = some w.heap.size) → wpList P ops Q rest (a.put o.dst (.slice A' N c')) w') : wpList P ops Q (o :: rest) a w := by
  obtain ⟨A', c', w', hrun, h2, h3, h4⟩ := run_append_all (P := P) (w := w) base t o.type e i z size bytes ht hi hz hsz hby hzc hs0 v n xs hown A m c news hl hsrc h1 hmax hbytes hbase (fun _ => rfl)
  refine wpList_wanted hgd fun K hK => ?_
  unfold Oper.wp execOp
  simp only [ho, resolve, invoke, builtin, Sem.run_bind, Sem.run_pure, Result.andThen_ok, List.map_toArray, List.map_cons, List.map_nil, hs, hx, hrun]
  exact hK _ _ (h A' (n + m) c' w' h2 (hide rfl) (hb.grown h3 hbase (own_base hown)) h3 h4)

/-- copy of bytes that are read into a block of the call's own. -/
theorem wpList_copy_b (hgd : o.guard = none) (d s : Operand) (t : TypeId) (ho : o.op = .call { callee := .builtin .copy, args := #[d, s], argTypes := #[t, t] }) (e : TypeId)
    (ht : P.underlying t = some (.slice e)) (hsz : (P.info? e).map (·.size) = some 1)
    (g off N C : Nat) (cur : List Value) (A : Option Addr) (m c : Nat) (bs : List UInt8) (hd : a.eval d = .slice (some ⟨g, off, none⟩) N C) (hs : a.eval s = .slice A m c)
    (hg : Blk w g e cur) (hR : RB w A m c bs) (hm : m ≤ N) (hN : off + m ≤ cur.length) (B : Nat) (w0 : World) (hb : Below B w0 w) (hB : B ≤ g)
    (h : ∀ w', Blk w' g e (cur.take off ++ BV bs ++ cur.drop (off + m)) → Below B w0 w' → w'.heap.size = w.heap.size → w.grownBy w' (some g) → wpList P ops Q rest (a.put o.dst (.int .i64 m)) w') : wpList P ops Q (o :: rest) a w := by
  have hl : (BV bs).length = m := by rw [BV_length]; exact hR.len
  have hmin : Nat.min m N = m := Nat.min_eq_left hm
  by_cases h0 : m = 0
  · subst h0
    have hbs : bs = [] := List.eq_nil_of_length_eq_zero hR.len
    subst hbs
    refine wpList_copy_nothing hgd d s t t ho e ht hsz _ _ N C 0 c hd hs (by simp [Nat.min]) ?_
    refine h w ?_ hb rfl ⟨rfl, rfl, rfl, Nat.le_refl _, fun _ _ _ => rfl⟩
    simpa [BV] using hg
  · obtain ⟨b, ofs, rfl, hlt, hcells⟩ := hR.cells (by omega)
    refine wpList_copy_own hgd d s t t ho e ht hsz g off N C ⟨b, ofs, none⟩ m c hd hs cur.toArray e hg (BV bs) (by rw [hl, hmin]) ?_ (by rw [hl]; simpa using hN) (BV_one bs) ?_
    · intro j v hj
      rw [Addr.add_lit]
      exact hcells j v hj
    · rw [hl]
      refine h _ ?_ (below_setRow hb hB _) (by simp) ⟨rfl, rfl, rfl, by simp, fun k _ hk => setRow_other w g k _ (fun e => hk (by rw [e]))⟩
      have := setRow_heap w g cur.toArray (cur.take off ++ BV bs ++ cur.drop (off + m)).toArray e (0, 0) hg
      simpa [Blk, hl] using this
end

end Go.Proofs.Ytlobddhpkemklaa
