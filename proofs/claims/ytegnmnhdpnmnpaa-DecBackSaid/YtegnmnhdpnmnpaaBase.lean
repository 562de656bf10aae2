/- Words that are used by all later texts: what a call leaves as it was; byte slices that read as a list. -/
import Derived.WalkKit
import Derived.KernelRfl
import Derived.Lib.Hide
import Derived.Deep.Draws
import Derived.Deep.QuietTactic
import Derived.BigQuiet
namespace Go.Proofs.Ytegnmnhdpnmnpaa
set_option linter.unusedVariables false
set_option linter.unusedSimpArgs false
open Go.RowKit

/-- w' is w with new blocks, and with changes in the blocks of S alone. -/
structure Fr (S : List Nat) (w w' : World) : Prop where
  os : w'.os = w.os
  tape : w'.tape = w.tape
  output : w'.output = w.output
  size : w.heap.size ≤ w'.heap.size
  block : ∀ k, k < w.heap.size → ¬ k ∈ S → w'.heap[k]? = w.heap[k]?

section
variable {S T : List Nat} {w w1 w2 : World}
theorem Fr.refl (S : List Nat) (w : World) : Fr S w w := ⟨rfl, rfl, rfl, Nat.le_refl _, fun _ _ _ => rfl⟩
theorem Fr.trans' (h : Fr S w w1) (k : Fr T w1 w2) (hs : ∀ b, b ∈ T → b ∈ S ∨ w.heap.size ≤ b) : Fr S w w2 :=
  ⟨k.os.trans h.os, k.tape.trans h.tape, k.output.trans h.output, Nat.le_trans h.size k.size, fun i hi hn =>
    (k.block i (Nat.lt_of_lt_of_le hi h.size) (fun ht => (hs i ht).elim hn (fun hle => by omega))).trans (h.block i hi hn)⟩
theorem Fr.trans (h : Fr S w w1) (k : Fr S w1 w2) : Fr S w w2 := h.trans' k (fun _ hb => .inl hb)
theorem Fr.then0 (h : Fr S w w1) (k : Fr [] w1 w2) : Fr S w w2 := h.trans' k (fun _ hb => by simp at hb)
theorem Fr.mono (h : Fr S w w1) (hs : ∀ b, b ∈ S → b ∈ T ∨ w.heap.size ≤ b) : Fr T w w1 := (Fr.refl T w).trans' h hs
theorem Fr.of0 (h : Fr [] w w1) : Fr S w w1 := h.mono (fun _ hb => by simp at hb)
theorem Fr.alloc (h : Fr S w w1) (o : Obj) : Fr S w (w1.alloc o) :=
  h.then0 ⟨rfl, rfl, rfl, by simp, fun k hk _ => Below.heap_alloc _ _ _ hk⟩
theorem Fr.drew (h : Fr S w w1) : Fr S w w1.drew := ⟨h.os, h.tape, h.output, h.size, h.block⟩
theorem Fr.drewN (h : Fr S w w1) (n : Nat) : Fr S w (w1.drewN n) := ⟨h.os, h.tape, h.output, h.size, h.block⟩
theorem Fr.setCell (h : Fr S w w1) {p : Addr} (hp : p.block ∈ S ∨ w.heap.size ≤ p.block) (u : Value) : Fr S w (w1.setCell p u) :=
  h.trans' (T := [p.block]) ⟨rfl, rfl, rfl, by simp [World.setCell], fun k _ hn => Below.heap_setCell _ _ _ _ (by simpa using hn)⟩
    (fun b hb => by simp at hb; subst hb; exact hp)
theorem Fr.grown {row : Option Nat} (h : Fr S w w1) (g : w1.grownBy w2 row) (hr : ∀ k, row = some k → k ∈ S ∨ w.heap.size ≤ k) : Fr S w w2 :=
  h.trans' (T := row.toList) ⟨g.os, g.tape, g.output, g.size, fun k hk hn => g.block k hk (by cases row <;> simp_all)⟩
    (fun b hb => hr b (by simpa using hb))
theorem Fr.below (h : Fr [] w w1) : Below w.heap.size w w1 := ⟨h.os, h.tape, h.output, h.size, fun k hk => h.block k hk (by simp)⟩
theorem Fr.of_below (h : Below w.heap.size w w1) : Fr S w w1 := ⟨h.os, h.tape, h.output, h.size, fun k hk _ => h.block k hk⟩
theorem Fr.lt (h : Fr S w w1) {k : Nat} (hk : k < w.heap.size) : k < w1.heap.size := Nat.lt_of_lt_of_le hk h.size
theorem Fr.heap (h : Fr S w w1) {k : Nat} {o : Obj} (hk : w.heap[k]? = some o) (hn : ¬ k ∈ S) : w1.heap[k]? = some o :=
  (h.block k (Array.getElem?_eq_some_iff.1 hk).1 hn).trans hk
theorem Fr.cell (h : Fr S w w1) {a : Addr} {v : Value} (hc : w.cell? a = some v) (hn : ¬ a.block ∈ S) : w1.cell? a = some v :=
  (World.cell?_of_block (h.block a.block (World.block_lt_of_cell? w a hc) hn)).trans hc
theorem Fr.frozen (h : Fr S w w1) {a : Addr} (hk : a.block < w.heap.size) (hn : ¬ a.block ∈ S) : w1.frozen? a = w.frozen? a :=
  World.frozen?_of_block (h.block a.block hk hn)
end

theorem cell_of_heap {w : World} {g i : Nat} {cs : Array Value} {t : TypeId} {fz : Nat × Nat} {v : Value} (h : w.heap[g]? = some (.cells cs t fz)) (hi : cs[i]? = some v) : w.cell? ⟨g, i, none⟩ = some v := by
  simp [World.cell?, h, hi]
theorem lt_of_heap {w : World} {g : Nat} {o : Obj} (h : w.heap[g]? = some o) : g < w.heap.size := (Array.getElem?_eq_some_iff.1 h).1
theorem frozen_of_heap {w : World} {g i : Nat} {cs : Array Value} {t : TypeId} (h : w.heap[g]? = some (.cells cs t (0, 0))) : w.frozen? ⟨g, i, none⟩ = false := by
  simp [World.frozen?, h]

theorem wrap_u8 (n : Nat) (h : n < 256) : IntKind.u8.wrap (n : Int) = n := by
  unfold IntKind.wrap
  simp only [IntKind.bits, IntKind.signed, Bool.false_and]
  simp
  omega
theorem bits_and_u8 (c : UInt8) (m : Nat) (hm : m < 256) : bits .and .u8 (c.toNat : Int) (m : Int) = ((c.toNat &&& m : Nat) : Int) := by
  have hc : c.toNat < 256 := c.toNat_lt
  have hle : c.toNat &&& m ≤ m := Nat.and_le_right
  have e : bits .and .u8 (c.toNat : Int) (m : Int) = IntKind.u8.wrap ((BitVec.ofInt 8 (c.toNat : Int) &&& BitVec.ofInt 8 (m : Int)).toNat : Int) := rfl
  rw [e, show BitVec.ofInt 8 (c.toNat : Int) = BitVec.ofNat 8 c.toNat by simp, show BitVec.ofInt 8 (m : Int) = BitVec.ofNat 8 m by simp]
  rw [BitVec.toNat_and, BitVec.toNat_ofNat, BitVec.toNat_ofNat, Nat.mod_eq_of_lt (by omega), Nat.mod_eq_of_lt (by omega)]
  exact wrap_u8 _ (by omega)

theorem bits_and_u8' (c m : Nat) (hc : c < 256) (hm : m < 256) : bits .and .u8 (c : Int) (m : Int) = ((c &&& m : Nat) : Int) := by
  have hle : c &&& m ≤ m := Nat.and_le_right
  have e : bits .and .u8 (c : Int) (m : Int) = IntKind.u8.wrap ((BitVec.ofInt 8 (c : Int) &&& BitVec.ofInt 8 (m : Int)).toNat : Int) := rfl
  rw [e, show BitVec.ofInt 8 (c : Int) = BitVec.ofNat 8 c by simp, show BitVec.ofInt 8 (m : Int) = BitVec.ofNat 8 m by simp]
  rw [BitVec.toNat_and, BitVec.toNat_ofNat, BitVec.toNat_ofNat, Nat.mod_eq_of_lt (by omega), Nat.mod_eq_of_lt (by omega)]
  exact wrap_u8 _ (by omega)
theorem wrap_i64_nat (n : Nat) (h : n < 9223372036854775808) : IntKind.i64.wrap (n : Int) = n := IntWalk.i64_in _ (by omega)
theorem bits_and_i64 (c m : Nat) (hc : c < 9223372036854775808) (hm : m < 9223372036854775808) : bits .and .i64 (c : Int) (m : Int) = ((c &&& m : Nat) : Int) := by
  have hle : c &&& m ≤ m := Nat.and_le_right
  have e : bits .and .i64 (c : Int) (m : Int) = IntKind.i64.wrap ((BitVec.ofInt 64 (c : Int) &&& BitVec.ofInt 64 (m : Int)).toNat : Int) := rfl
  rw [e, show BitVec.ofInt 64 (c : Int) = BitVec.ofNat 64 c by simp, show BitVec.ofInt 64 (m : Int) = BitVec.ofNat 64 m by simp]
  rw [BitVec.toNat_and, BitVec.toNat_ofNat, BitVec.toNat_ofNat, Nat.mod_eq_of_lt (by omega), Nat.mod_eq_of_lt (by omega)]
  exact wrap_i64_nat _ (by omega)
theorem bits_and7 (k : IntKind) (c : Nat) (hc : c < 9223372036854775808) (hk : k = .i64) : bits .and k (c : Int) 7 = (c : Int) % 8 := by
  subst hk
  have := bits_and_i64 c 7 hc (by omega)
  rw [show (7 : Nat) = 2 ^ 3 - 1 from rfl, Nat.and_two_pow_sub_one_eq_mod] at this
  simpa using this

/-- The world at hand under a name of its own: of it there is known what R says. -/
theorem wp_world {c : Code} {P : Program} {Q : Exit → Act → World → Prop} {a : Act} {w : World} (R : World → Prop) (h0 : R w) (h : ∀ W, R W → c.wp P Q a W) : c.wp P Q a w := h w h0

theorem cells_of {w : World} {g : Nat} {cs : Array Value} {t : TypeId} (h : w.heap[g]? = some (.cells cs t (0, 0))) : ∀ i v, cs[i]? = some v → w.cell? ⟨g, i, none⟩ = some v :=
  fun _ _ hi => cell_of_heap h hi
theorem cells7 {w : World} {g : Nat} {a b c d e f i : Value} {t : TypeId} (h : w.heap[g]? = some (.cells #[a, b, c, d, e, f, i] t (0, 0))) :
    w.cell? ⟨g, 0, none⟩ = some a ∧ w.cell? ⟨g, 1, none⟩ = some b ∧ w.cell? ⟨g, 2, none⟩ = some c ∧ w.cell? ⟨g, 3, none⟩ = some d ∧ w.cell? ⟨g, 4, none⟩ = some e ∧ w.cell? ⟨g, 5, none⟩ = some f ∧ w.cell? ⟨g, 6, none⟩ = some i ∧ ∀ k, w.frozen? ⟨g, k, none⟩ = false :=
  ⟨cell_of_heap h rfl, cell_of_heap h rfl, cell_of_heap h rfl, cell_of_heap h rfl, cell_of_heap h rfl, cell_of_heap h rfl, cell_of_heap h rfl, fun _ => frozen_of_heap h⟩
theorem cells5 {w : World} {g : Nat} {a b c d e : Value} {t : TypeId} (h : w.heap[g]? = some (.cells #[a, b, c, d, e] t (0, 0))) :
    w.cell? ⟨g, 0, none⟩ = some a ∧ w.cell? ⟨g, 1, none⟩ = some b ∧ w.cell? ⟨g, 2, none⟩ = some c ∧ w.cell? ⟨g, 3, none⟩ = some d ∧ w.cell? ⟨g, 4, none⟩ = some e ∧ ∀ k, w.frozen? ⟨g, k, none⟩ = false :=
  ⟨cell_of_heap h rfl, cell_of_heap h rfl, cell_of_heap h rfl, cell_of_heap h rfl, cell_of_heap h rfl, fun _ => frozen_of_heap h⟩
theorem heap_new (w : World) (o : Obj) : (w.alloc o).heap[w.heap.size]? = some o := heap_alloc_new w o
theorem heap_old {w : World} {k : Nat} {x : Obj} (o : Obj) (h : w.heap[k]? = some x) : (w.alloc o).heap[k]? = some x := (Below.heap_alloc w o k (Array.getElem?_eq_some_iff.1 h).1).trans h

/-- The bytes that a slice's address leads to. -/
def ByteCells (w : World) (a : Option Addr) (bs : List UInt8) : Prop :=
  bs = [] ∨ ∃ g o, a = some ⟨g, o, none⟩ ∧ ∀ i (h : i < bs.length), w.cell? ⟨g, o + i, none⟩ = some (.int .u8 (bs[i].toNat : Int))
theorem ByteCells.at_ {w : World} {a : Option Addr} {bs : List UInt8} (h : ByteCells w a bs) (hn : 0 < bs.length) :
    ∃ g o, a = some ⟨g, o, none⟩ ∧ g < w.heap.size ∧ ∀ i (h : i < bs.length), w.cell? ⟨g, o + i, none⟩ = some (.int .u8 (bs[i].toNat : Int)) := by
  rcases h with rfl | ⟨g, o, e, hc⟩
  · simp at hn
  · exact ⟨g, o, e, World.block_lt_of_cell? w _ (hc 0 hn), hc⟩
theorem ByteCells.fr {S : List Nat} {w w1 : World} {a : Option Addr} {bs : List UInt8} (h : ByteCells w a bs) (f : Fr S w w1) (hn : ∀ g o, a = some ⟨g, o, none⟩ → ¬ g ∈ S) : ByteCells w1 a bs := by
  rcases h with rfl | ⟨g, o, e, hc⟩
  · exact .inl rfl
  · exact .inr ⟨g, o, e, fun i hi => f.cell (hc i hi) (hn g o e)⟩
end Go.Proofs.Ytegnmnhdpnmnpaa
