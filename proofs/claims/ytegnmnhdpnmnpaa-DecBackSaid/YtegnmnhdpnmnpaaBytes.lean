/- Byte slices that a call makes; le.Bytes; slices.Index and Contains at []int; dec's small functions. -/
import Derived.OwnWalk
import Derived.Maps.AppendAt
import Derived.Test.YtegnmnhdpnmnpaaFrames
import Derived.Test.YtegnmnhdpnmnpaaDecSpec
import Derived.Test.YtegnmnhdpnmnpaaProg
namespace Go.Proofs.Ytegnmnhdpnmnpaa
set_option linter.unusedVariables false
set_option linter.unusedSimpArgs false
open Go.RowKit

def byteVal (c : UInt8) : Value := .int .u8 (c.toNat : Int)
/-- The slice v owns the bytes bs, in a block from B on. -/
def OwnB (B : Nat) (w : World) (v : Value) (bs : List UInt8) : Prop := w.ownsRow B 5 1 v bs.length (bs.map byteVal)

theorem OwnB.nil (B : Nat) (w : World) : OwnB B w (.slice none 0 0) [] := World.ownsRow_nil _ _ _ _
theorem OwnB.fr {B : Nat} {S : List Nat} {w w1 : World} {v : Value} {bs : List UInt8} (h : OwnB B w v bs) (f : Fr S w w1) (hS : ∀ k, k ∈ S → k < B) : OwnB B w1 v bs := by
  refine ⟨h.1, ?_⟩
  rcases h.2 with hn | ⟨g, cap, cur, hv, hg, hh, r⟩
  · exact .inl hn
  · exact .inr ⟨g, cap, cur, hv, hg, f.heap hh (fun hk => by have := hS _ hk; omega), r⟩
theorem OwnB.fr0 {B : Nat} {w w1 : World} {v : Value} {bs : List UInt8} (h : OwnB B w v bs) (f : Fr [] w w1) : OwnB B w1 v bs := h.fr f (by simp)
theorem OwnB.mono {B B' : Nat} {w : World} {v : Value} {bs : List UInt8} (h : OwnB B w v bs) (hB : B' ≤ B) : OwnB B' w v bs := by
  refine ⟨h.1, ?_⟩
  rcases h.2 with hn | ⟨g, cap, cur, hv, hg, r⟩
  · exact .inl hn
  · exact .inr ⟨g, cap, cur, hv, Nat.le_trans hB hg, r⟩
/-- Its address, its capacity, and the bytes that lie there. -/
theorem OwnB.form {B : Nat} {w : World} {v : Value} {bs : List UInt8} (h : OwnB B w v bs) :
    ∃ a cap, v = .slice a bs.length cap ∧ bs.length ≤ cap ∧ cap ≤ maxLen ∧ ByteCells w a bs ∧ (∀ g o, a = some ⟨g, o, none⟩ → B ≤ g ∧ g < w.heap.size ∧ o = 0) := by
  rcases h.2 with ⟨hv, hl⟩ | ⟨g, cap, cur, hv, hg, hh, hle, hcm, hsz, htk⟩
  · have : bs = [] := List.eq_nil_of_length_eq_zero hl
    subst this
    exact ⟨none, 0, by simpa using hv, by simp, by simp, .inl rfl, fun _ _ h => by cases h⟩
  · refine ⟨some ⟨g, 0, none⟩, cap, hv, hle, hcm, .inr ⟨g, 0, rfl, fun i hi => ?_⟩, fun g' o' e => by cases e; exact ⟨hg, lt_of_heap hh, rfl⟩⟩
    have h1 : (cur.toList.take (bs.length * 1))[i]? = (bs.map byteVal)[i]? := by rw [htk]
    rw [List.getElem?_take_of_lt (by simpa using hi)] at h1
    rw [Nat.zero_add]
    refine cell_of_heap hh ?_
    rw [← Array.getElem?_toList, h1]
    simp [hi, byteVal]
/-- A slice over the whole of a block that holds just these bytes. -/
theorem OwnB.lit {B : Nat} {w : World} {g : Nat} (bs : List UInt8) {cs : Array Value} (h : w.heap[g]? = some (.cells cs 5 (0, 0))) (hc : cs = (bs.map byteVal).toArray) (hB : B ≤ g) (hm : bs.length ≤ maxLen) :
    OwnB B w (.slice (some ⟨g, 0, none⟩) bs.length bs.length) bs := by
  subst hc
  exact ⟨by simp, .inr ⟨g, bs.length, _, rfl, hB, h, Nat.le_refl _, hm, by simp, by rw [List.take_of_length_le (by simp)]⟩⟩

def leL (v : Nat) (n : Nat) : List UInt8 := (List.range n).map fun i => UInt8.ofNat (v / 256 ^ i)
theorem leL_length (v n : Nat) : (leL v n).length = n := by simp [leL]
theorem leL_succ (v n : Nat) : leL v (n + 1) = leL v n ++ [UInt8.ofNat (v / 256 ^ n)] := by simp [leL, List.range_succ]

theorem byte_at (v : Int) (h0 : 0 ≤ v) (k : Nat) : v / 2 ^ (8 * k) % 256 = ((UInt8.ofNat (v.toNat / 256 ^ k)).toNat : Int) := by
  obtain ⟨m, rfl⟩ := Int.eq_ofNat_of_zero_le h0
  have e : (2 : Nat) ^ (8 * k) = 256 ^ k := by rw [Nat.pow_mul]
  have e1 : ((m : Int) / 2 ^ (8 * k) % 256) = ((m / 2 ^ (8 * k) % 256 : Nat) : Int) := by simp
  rw [e1, e]
  simp
/-- One byte more. -/
theorem OwnB.snoc {w wr w1 : World} {b v' : Value} {bs : List UInt8} {o : Obj} {x : Int} {c : UInt8} (hfr : Fr [] w wr) (hown : OwnB w.heap.size wr b bs)
    (hown' : w1.ownsRow w.heap.size 5 1 v' (bs.length + 1) (bs.map byteVal ++ [.int .u8 x])) (hg : (wr.alloc o).grownBy w1 b.ownBlock) (hx : x = (c.toNat : Int)) : OwnB w.heap.size w1 v' (bs ++ [c]) ∧ Fr [] w w1 := by
  refine ⟨?_, (hfr.alloc o).grown hg (fun k hk => .inr (hown.lt k hk).1)⟩
  unfold OwnB
  subst hx
  simpa [byteVal] using hown'

theorem Try.infoU8 : (Try.prog.info? 5).map (fun i => (i.zero, i.size, i.bytes)) = some (some (.int .u8 0), 1, 1) := by kernel_rfl

set_option maxRecDepth 100000 in
set_option maxHeartbeats 2000000 in
theorem bytes_any (v : Int) (h0 : 0 ≤ v) (h1 : v < 18446744073709551616) (n : Nat) (hn : n ≤ 8) (w : World) :
    Calls Try.prog 20 #[.int .u64 v, .int .i64 n] w fun e w' => ∃ sv, e = .returned sv ∧ OwnB w.heap.size w' sv (leL v.toNat n) ∧ Fr [] w w' := by
  obtain ⟨i0, hi0, hz0, hz1, hz2⟩ := info_parts Try.infoU8
  have hmx : max (n : Int) 0 = n := by omega
  have hmn : min (n : Int) 8 = n := by omega
  go_enter Try.func20, Try.ntmps20
  go_wp2_with fail
  go_loopw [5, 6, 10] (fun b _ i wr => ∃ k : Nat, k ≤ n ∧ i = .int .i64 k ∧ OwnB w.heap.size wr b (leL v.toNat k) ∧ Fr [] w wr) (fun _ _ i _ => n - (intOf i).toNat)
  case atStart => exact ⟨0, by omega, rfl, OwnB.nil _ _, Fr.refl _ _⟩
  case round =>
    obtain ⟨k, hk, rfl, hown, hfr⟩ := hrel
    by_cases hlt : k < n
    · go_wp2_with (at_builtin; refine wpList_append_own _ rfl _ _ 26 rfl w.heap.size 5 i0 (.int .u8 0) 1 1 Try.underlying26 hi0 hz0 hz1 hz2 rfl (by decide) _ _ _ rfl (hown.alloc _) ⟨wr.heap.size, 0, none⟩ 1 1 [.int .u8 (v / 2 ^ (8 * k) % 256)] rfl rfl ?c1 ?c2 ?c3 ?c4 ?c5 ?_)
      case c1 => exact cell_one_new _ _ _
      case c2 => intro u hu; simp at hu; subst hu; rfl
      case c3 => rw [leL_length]; unfold maxLen; omega
      case c4 => rw [leL_length]; omega
      case c5 => have := hfr.size; simp; omega
      intro v' w1 hown' hgrow _
      have R := OwnB.snoc hfr hown hown' hgrow (byte_at v h0 k)
      rw [← leL_succ] at R
      clear hown' hgrow hown hfr
      go_wp2_with fail
      go_roundw
      case rel => exact ⟨k + 1, by omega, by go_num, R.1, R.2⟩
      case measure => simp [intOf]; omega
    · obtain rfl : k = n := by omega
      go_wp2_with fail
      go_ret
      exact ⟨_, rfl, hown, hfr⟩
end Go.Proofs.Ytegnmnhdpnmnpaa
