/- dec.number, over slices.Backward. -/
import Derived.RangeFuncNested
import Derived.RangeFuncBound
import Derived.RangeFuncCalls
import Derived.RangeFuncLeaves
import Derived.RangeFuncBox
import Derived.Shelf.Abstract
import Derived.OwnWalkIn
import Derived.TacticsInMore
import Derived.LoopNIn
import Derived.LoopIn
import Derived.Test.YtegnmnhdpnmnpaaProg
import Derived.Test.YtegnmnhdpnmnpaaBase
import Derived.Test.YtegnmnhdpnmnpaaDecSpec
namespace Go.Proofs.Ytegnmnhdpnmnpaa
set_option linter.unusedVariables false
set_option linter.unusedSimpArgs false
open Go.RowKit Go.Shelf

attribute [local go_sem] Oper.semAt_some

def upto {α : Type} (f : Nat → α) (k : Nat) : List α := (List.range k).map f
theorem upto_succ {α : Type} (f : Nat → α) (k : Nat) : upto f (k + 1) = upto f k ++ [f k] := by simp [upto, List.range_succ]
theorem upto_length {α : Type} (f : Nat → α) (k : Nat) : (upto f k).length = k := by simp [upto]

/-- What comes as number j. -/
def bwAt (bs : List UInt8) (j : Nat) : Int × UInt8 := ((bs.length : Int) - 1 - j, bs.getD (bs.length - 1 - j) 0)

/-- What a round keeps: all below n₀, and the box of the slice. -/
def KpB (Bs n₀ : Nat) (W W' : World) : Prop := Below n₀ W W' ∧ W'.heap[Bs]? = W.heap[Bs]?
theorem KpB.refl (Bs n₀ : Nat) (W : World) : KpB Bs n₀ W W := ⟨Below.refl _ _, rfl⟩
theorem KpB.t {Bs n₀ : Nat} {A B C : World} (h : KpB Bs n₀ A B) (k : KpB Bs n₀ B C) : KpB Bs n₀ A C := ⟨h.1.trans k.1, k.2.trans h.2⟩
theorem KpB.b {Bs n₀ : Nat} {w : World} (hn : n₀ ≤ w.heap.size) (hB : Bs < w.heap.size) (W : World) (l : Nat) (o o' : Obj) (hl : w.heap.size ≤ l) (h : W.heap[l]? = some o) (h1 : o.isCells = false) (h2 : o.isWalk = false) : KpB Bs n₀ W (W.putObj l o') :=
  ⟨belowK_b hn W l o o' hl h h1 h2, World.putObj_heap_other (by omega)⟩

set_option maxRecDepth 100000 in
set_option maxHeartbeats 2000000 in
theorem bw1_in (F : Fence) (n : Nat) (h7 : F.fn 68) (hro : F.round = none) (hn : 1 ≤ n) (l Bs n₀ b off cap : Nat) (bs : List UInt8) (hreach : bs.length ≤ 140737488351232) (hb : b < n₀) (J Jx : List (Int × UInt8) → World → Prop)
    (hY : ∀ pre x W, J pre W → pre.length < bs.length → YieldAt F (n - 1) Try.prog l #[.int .i64 x.1, .int .u8 (x.2.toNat : Int)] W fun e W' =>
      (e = .returned (.bool true) ∧ J (pre ++ [x]) W' ∧ KpB Bs n₀ W W') ∨ (e = .returned (.bool false) ∧ Jx (pre ++ [x]) W'))
    (W : World) (hBs : W.cell? ⟨Bs, 0, none⟩ = some (.slice (some ⟨b, off, none⟩) bs.length cap)) (hc : ∀ j (h : j < bs.length), W.cell? ⟨b, off + j, none⟩ = some (.int .u8 (bs[j].toNat : Int))) (h0 : J [] W) :
    CallsIn F n Try.prog 68 #[.func (.yield l) #[] #[], .pointer (some ⟨Bs, 0, none⟩)] W fun e W' => (∃ v, e = .returned v) ∧
      ((∃ ys, ys = upto (bwAt bs) bs.length ∧ J ys W') ∨ (∃ pre, (∃ k, k ≤ bs.length ∧ pre = upto (bwAt bs) k) ∧ Jx pre W')) := by
  refine callsIn_of_wp Try.func68 rfl h7 ?_ hro
  simp only [Try.ntmps68, List.size_toArray, List.length_cons, List.length_nil, Nat.reduceAdd, Nat.reduceSub, Array.replicate_succ, Array.replicate_zero, List.push_toArray, List.append_toArray, List.nil_append, List.cons_append]
  gi_wp2
  gi_loopw [3] (fun i wr => ∃ k : Nat, k ≤ bs.length ∧ i = .int .i64 ((bs.length : Int) - 1 - k) ∧ J (upto (bwAt bs) k) wr ∧ KpB Bs n₀ W wr)
    (fun i _ => (intOf i + 1).toNat)
  case atStart => exact ⟨0, Nat.zero_le _, by simp, h0, KpB.refl _ _ _⟩
  case round =>
    obtain ⟨k, hk, rfl, hJs, hnx⟩ := hrel
    have hBx : wr.cell? ⟨Bs, 0, none⟩ = some (.slice (some ⟨b, off, none⟩) bs.length cap) := (World.cell?_of_block (a := ⟨Bs, 0, none⟩) hnx.2).trans hBs
    by_cases hlt : k < bs.length
    · have hcx : wr.cell? ⟨b, off + (bs.length - 1 - k), none⟩ = some (.int .u8 (bs[bs.length - 1 - k].toNat : Int)) := (hnx.1.cell (p := ⟨b, off + (bs.length - 1 - k), none⟩) hb).trans (hc _ (by omega))
      obtain ⟨fn, tmps, assign, body, hy, hR⟩ := hY _ (bwAt bs k) wr hJs (by rw [upto_length]; exact hlt)
      dsimp only [bwAt] at hy
      have eg : bs.getD (bs.length - 1 - k) 0 = bs[bs.length - 1 - k] := by rw [List.getD_eq_getElem?_getD, List.getElem?_eq_getElem (by omega)]; rfl
      rw [eg] at hy
      clear eg
      gi_wp2
      refine hR.mono ?_
      rintro e W3 (⟨rfl, hJ3, hk3⟩ | ⟨rfl, hJx3⟩)
      · gi_wp2
        go_roundw
        case rel => exact ⟨k + 1, by omega, by congr 1; omega, by rw [upto_succ]; exact hJ3, hnx.t hk3⟩
        case measure => simp [intOf]; omega
      · gi_wp2
        refine bodyPost_ret (results_none rfl _ _ _) rfl ?_
        exact ⟨⟨_, rfl⟩, .inr ⟨_, ⟨k + 1, by omega, (upto_succ _ _).symm⟩, hJx3⟩⟩
    · obtain rfl : k = bs.length := by omega
      gi_wp2
      go_end0
      exact ⟨⟨_, rfl⟩, .inl ⟨_, rfl, hJs⟩⟩

set_option maxRecDepth 100000 in
set_option maxHeartbeats 1000000 in
theorem bw1_nil_in (F : Fence) (n : Nat) (h7 : F.fn 68) (hro : F.round = none) (l Bs : Nat) (a : Option Addr) (cap : Nat) (J : List (Int × UInt8) → World → Prop) (W : World) (hBs : W.cell? ⟨Bs, 0, none⟩ = some (.slice a 0 cap)) (h0 : J [] W) :
    CallsIn F n Try.prog 68 #[.func (.yield l) #[] #[], .pointer (some ⟨Bs, 0, none⟩)] W fun e W' => (∃ v, e = .returned v) ∧ J [] W' := by
  refine callsIn_of_wp Try.func68 rfl h7 ?_ hro
  simp only [Try.ntmps68, List.size_toArray, List.length_cons, List.length_nil, Nat.reduceAdd, Nat.reduceSub, Array.replicate_succ, Array.replicate_zero, List.push_toArray, List.append_toArray, List.nil_append, List.cons_append]
  gi_wp2
  gi_loopw [3] (fun i wr => i = .int .i64 (-1) ∧ J [] wr) (fun _ _ => 0)
  case atStart => exact ⟨rfl, h0⟩
  case round =>
    obtain ⟨rfl, hJs⟩ := hrel
    gi_wp2
    go_end0
    exact ⟨⟨_, rfl⟩, hJs⟩

set_option maxHeartbeats 1000000 in
theorem backward_in (F : Fence) (n : Nat) (h5 : F.fn 63) (hro : F.round = none) (a : Option Addr) (len cap : Nat) (w : World) :
    CallsIn F n Try.prog 63 #[.slice a len cap] w fun e w' => e = .returned (.func (.func 68) #[] #[.pointer (some ⟨w.heap.size, 0, none⟩)]) ∧ w' = w.alloc (.cells #[.slice a len cap] 26) := by
  refine callsIn_of_wp Try.func63 rfl h5 ?_ hro
  simp only [Try.ntmps63, List.size_toArray, List.length_cons, List.length_nil, Nat.reduceAdd, Nat.reduceSub, Array.replicate_succ, Array.replicate_zero, List.push_toArray, List.append_toArray, List.nil_append, List.cons_append]
  gi_wp2
  go_ret
  exact ⟨rfl, rfl⟩

/-- 'slices.Backward(b)' hands back a value that gives the bytes, the last first. -/
theorem backward_stops (F : Fence) (n : Nat) (h8 : F.fn 68) (hro : F.round = none) (hn : 1 ≤ n) (Bs n₀ : Nat) (a : Option Addr) (cap : Nat) (bs : List UInt8) (hreach : bs.length ≤ 140737488351232) (w : World) (hBs : Bs < w.heap.size) (hn₀ : n₀ ≤ w.heap.size)
    (hc : w.cell? ⟨Bs, 0, none⟩ = some (.slice a bs.length cap)) (hI : ByteCells w a bs) (hlow : ∀ g o, a = some ⟨g, o, none⟩ → bs ≠ [] → g < n₀) :
    SeqStopsK F n Try.prog 68 #[.pointer (some ⟨Bs, 0, none⟩)] (fun x : Int × UInt8 => #[Value.int .i64 x.1, Value.int .u8 (x.2.toNat : Int)]) (KpB Bs n₀) (fun ys => ys = upto (bwAt bs) bs.length)
      (fun pre => ∃ k, k ≤ bs.length ∧ pre = upto (bwAt bs) k) bs.length w := fun l J Jx W hW _ _ hY h0 => by
  have hc' := (hW.cell (p := ⟨Bs, 0, none⟩) hBs).trans hc
  by_cases hne : bs = []
  · subst hne
    exact (bw1_nil_in F n h8 hro l Bs a cap J W hc' h0).mono fun e W' ⟨he, hj⟩ => ⟨he, .inl ⟨_, rfl, hj⟩⟩
  · rcases hI with rfl | ⟨b, off, rfl, hcs⟩
    · exact absurd rfl hne
    have hb := hlow b off rfl hne
    exact bw1_in F n h8 hro hn l Bs n₀ b off cap bs hreach hb J Jx hY W hc' (fun j hj => (hW.cell (p := ⟨b, off + j, none⟩) (by simp; omega)).trans (hcs j hj)) h0

/-- One round of 'v = v<<8 | uint64(c)', as the walk spells it. -/
def numStep (v : Int) (c : UInt8) : Int := bits .or .u64 (IntKind.u64.wrap (v * 256)) (IntKind.u64.wrap (c.toNat : Int))
def numOf (pre : List (Int × UInt8)) : Int := pre.foldl (fun v x => numStep v x.2) 0

theorem numStep_eq (v : Nat) (c : UInt8) (h : v < 72057594037927936) : numStep (v : Int) c = ((c.toNat + 256 * v : Nat) : Int) := by
  have hc : c.toNat < 256 := c.toNat_lt
  have w1 : IntKind.u64.wrap ((v : Int) * 256) = ((v * 256 : Nat) : Int) := by
    unfold IntKind.wrap
    simp only [IntKind.bits, IntKind.signed, Bool.false_and]
    simp
    omega
  have w2 : IntKind.u64.wrap (c.toNat : Int) = ((c.toNat : Nat) : Int) := by
    unfold IntKind.wrap
    simp only [IntKind.bits, IntKind.signed, Bool.false_and]
    simp
    omega
  unfold numStep
  rw [w1, w2]
  have e : bits .or .u64 ((v * 256 : Nat) : Int) (c.toNat : Int) = IntKind.u64.wrap ((BitVec.ofInt 64 ((v * 256 : Nat) : Int) ||| BitVec.ofInt 64 (c.toNat : Int)).toNat : Int) := rfl
  rw [e, BitVec.ofInt_natCast 64 (v * 256), show BitVec.ofInt 64 (c.toNat : Int) = BitVec.ofNat 64 c.toNat by simp]
  rw [BitVec.toNat_or, BitVec.toNat_ofNat, BitVec.toNat_ofNat, Nat.mod_eq_of_lt (by omega), Nat.mod_eq_of_lt (by omega)]
  have ho : v * 256 ||| c.toNat = v * 256 + c.toNat := by
    have := Nat.shiftLeft_add_eq_or_of_lt (i := 8) (b := c.toNat) hc v
    rw [Nat.shiftLeft_eq] at this
    exact this.symm
  rw [ho]
  unfold IntKind.wrap
  simp only [IntKind.bits, IntKind.signed, Bool.false_and]
  simp
  omega
theorem numFold_eq : ∀ (bs : List UInt8), bs.length ≤ 8 → bs.foldr (fun c v => numStep v c) 0 = (leNat bs : Int)
  | [], _ => rfl
  | c :: cs, h => by
    have h1 : cs.length ≤ 7 := by simpa using h
    have hlt := leNat_lt cs
    have hp : (256 : Nat) ^ cs.length ≤ 256 ^ 7 := Nat.pow_le_pow_right (by omega) h1
    have : leNat cs < 72057594037927936 := Nat.lt_of_lt_of_le hlt hp
    simp only [List.foldr_cons, numFold_eq cs (by omega), numStep_eq _ _ this, leNat]
theorem numOf_le (bs : List UInt8) (h : bs.length ≤ 8) : numOf (upto (bwAt bs) bs.length) = (leNat bs : Int) := by
  have e : (upto (bwAt bs) bs.length).map (·.2) = bs.reverse := by
    apply List.ext_getElem
    · simp [upto]
    · intro i h1 h2
      simp [upto] at h1
      simp [upto, bwAt, List.getElem_reverse, show bs.length - 1 - i < bs.length by omega]
  have e2 : numOf (upto (bwAt bs) bs.length) = ((upto (bwAt bs) bs.length).map (·.2)).foldl (fun v c => numStep v c) 0 := by
    simp [numOf, List.foldl_map]
  rw [e2, e, List.foldl_reverse, numFold_eq bs h]

set_option maxRecDepth 100000 in
set_option maxHeartbeats 2000000 in
theorem number_in (F : Fence) (n : Nat) (h3 : F.fn 56) (h5 : F.fn 63) (h7 : F.fn 68) (hro : F.round = none) (hn : 3 ≤ n) (a : Option Addr) (cap : Nat) (bs : List UInt8) (hreach : bs.length ≤ 140737488351232) (w : World) (hI : ByteCells w a bs) :
    CallsIn F n Try.prog 56 #[.slice a bs.length cap] w fun e W' => e = .returned (.int .u64 (numOf (upto (bwAt bs) bs.length))) ∧ Below w.heap.size w W' := by
  have h1 : 1 ≤ n := by omega
  have hlow : ∀ g o, a = some ⟨g, o, none⟩ → bs ≠ [] → g < w.heap.size := fun g o ha hne => by
    rcases hI with rfl | ⟨g', o', ha', hcs⟩
    · exact absurd rfl hne
    · rw [ha] at ha'; cases ha'; exact World.block_lt_of_cell? w _ (hcs 0 (by cases bs; exact absurd rfl hne; simp))
  refine callsIn_of_wp_marks Try.func56 rfl h3 ?_ hro
  simp only [Try.ntmps56, List.size_toArray, List.length_cons, List.length_nil, Nat.reduceAdd, Nat.reduceSub, Array.replicate_succ, Array.replicate_zero, List.push_toArray, List.append_toArray, List.nil_append, List.cons_append]
  gi_wp2_with (gi_at_call 63; refine (backward_in F (n - 1) h5 hro _ _ _ _).mono ?_; rintro e w' ⟨rfl, rfl⟩)
  gi_wp2
  have bS := Boxed.new w 22 (.int .u64 0)
  have bN := Boxed.new (w.alloc (.cells #[.int .u64 0] 22)) 26 (.slice a bs.length cap)
  rw [World.size_alloc] at bN
  have hB0 : Below w.heap.size w ((w.alloc (.cells #[.int .u64 0] 22)).alloc (.cells #[.slice a bs.length cap] 26)) := ((Below.refl _ w).alloc (Nat.le_refl _) _).alloc (by simp) _
  have hI2 : ByteCells ((w.alloc (.cells #[.int .u64 0] 22)).alloc (.cells #[.slice a bs.length cap] 26)) a bs :=
    hI.fr (S := []) (((Fr.refl [] w).alloc _).alloc _) (fun _ _ _ => by simp)
  refine wpIn_rangeFunc_ownG hro h1 (gf := 68) (lb := #[.pointer (some ⟨w.heap.size + 1, 0, none⟩)]) rfl h7 (enters_of Try.func68 (by kernel_rfl) rfl)
    (backward_stops F (n - 1) h7 hro (by omega) (w.heap.size + 1) w.heap.size a cap bs hreach _ (by simp) (by simp; omega) bN.cell hI2 hlow) KpB.t (KpB.b (by simp; omega) (by simp)) (Below.refl _ _) (fun _ => rfl)
    (fun pre W => (W.cell? ⟨w.heap.size, 0, none⟩ = some (.int .u64 (numOf pre)) ∧ W.frozen? ⟨w.heap.size, 0, none⟩ = false) ∧ Below w.heap.size w W)
    (fun _ _ _ => False)
    (OwnFrom.and (Own.from (fun s A B row hs hg hr => ⟨cell_kept hs.1 hg hr, (frozen_kept hs.1 hg hr).trans hs.2⟩) _) (ownFrom_below (Nat.le_refl _) (by simp; omega)))
    (fun _ _ _ _ _ hs _ _ => hs)
    ⟨⟨(bS.alloc _).cell, (bS.alloc _).frozen⟩, hB0⟩
    (fun x => { tmps := #[.slice a bs.length cap, undef, .int .u64 0, .pointer (some ⟨w.heap.size, 0, none⟩), undef, .int .u8 (x.2.toNat : Int), .slice a bs.length cap, .func (.func 68) #[] #[.pointer (some ⟨w.heap.size + 1, 0, none⟩)], .int .i64 x.1, .int .u8 (x.2.toNat : Int), undef, undef, undef, undef, undef, undef], defers := [] }) ?assign ?body ?done ?stop
  case assign =>
    intro l x W K hK
    gi_wp2
    exact hK
  case body =>
    rintro l pre x W ⟨⟨hc, hf⟩, hB⟩ _
    gi_wp2
    refine ⟨(KeepsOthers.setCell _ _ _).from _, ⟨(Below.refl w.heap.size W).setCell (p := ⟨w.heap.size, 0, none⟩) (Nat.le_refl _) _, Below.heap_setCell _ _ _ _ (by simp)⟩, ⟨?_, by rw [World.frozen?_setCell]; exact hf⟩, hB.setCell (p := ⟨w.heap.size, 0, none⟩) (Nat.le_refl _) _⟩
    have e : numOf (pre ++ [x]) = numStep (numOf pre) x.2 := by simp [numOf]
    rw [e]
    exact World.cell?_setCell_same' _ _ _ (by rw [hc]; rfl)
  case done =>
    rintro D ys W hD rfl ⟨⟨hc, _⟩, hB⟩ hK
    gi_wp2
    refine ⟨by simp, .inl ⟨_, _, rfl, run_takeDeferred hK, ?_⟩⟩
    exact ⟨_, results_tmp rfl _ _ _, rfl, hB.trans (belowK_b (w := w) (Nat.le_refl _) W D _ _ (by simp at hD; omega) hK rfl rfl)⟩
  case stop =>
    rintro D c pre W _ _ h _
    exact h.elim

theorem number_any (a : Option Addr) (cap : Nat) (bs : List UInt8) (hreach : bs.length ≤ 140737488351232) (w : World) (hI : ByteCells w a bs) :
    Calls Try.prog 56 #[.slice a bs.length cap] w fun e W' => e = .returned (.int .u64 (numOf (upto (bwAt bs) bs.length))) ∧ Fr [] w W' :=
  ((callsIn_wide (n := 3)).1 (number_in Fence.wide 3 trivial trivial trivial rfl (by omega) a cap bs hreach w hI)).mono fun _ _ ⟨h, k⟩ => ⟨h, Fr.of_below k⟩
end Go.Proofs.Ytegnmnhdpnmnpaa
