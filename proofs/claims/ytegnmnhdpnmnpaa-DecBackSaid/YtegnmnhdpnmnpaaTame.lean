/- slipwaylaw15.Tame: it makes an instruction that may be. -/
import Derived.Deep.RegionHeld3
import Derived.Deep.DeepCutAuto
import Derived.Deep.Light
import Derived.BigRegion
import Derived.Test.YtegnmnhdpnmnpaaEncode
namespace Go.Proofs.Ytegnmnhdpnmnpaa
set_option linter.unusedVariables false
set_option linter.unusedSimpArgs false
open Go.RowKit
theorem and_bd (x : Int) (m : Nat) (hm : m < 9223372036854775808) : ∃ r : Nat, r ≤ m ∧ bits .and .i64 x (m : Int) = (r : Int) := by
  have e : bits .and .i64 x (m : Int) = IntKind.i64.wrap ((BitVec.ofInt 64 x &&& BitVec.ofInt 64 (m : Int)).toNat : Int) := rfl
  have h : (BitVec.ofInt 64 x &&& BitVec.ofInt 64 (m : Int)).toNat ≤ m := by
    rw [BitVec.toNat_and, show BitVec.ofInt 64 (m : Int) = BitVec.ofNat 64 m by simp, BitVec.toNat_ofNat, Nat.mod_eq_of_lt (show m < 2 ^ 64 by omega)]
    exact Nat.and_le_right
  exact ⟨_, h, by rw [e, wrap_i64_nat _ (by omega)]⟩
theorem and_bd_u64 (x : Int) (m : Nat) (hm : m < 9223372036854775808) : ∃ r : Nat, r ≤ m ∧ bits .and .u64 x (m : Int) = (r : Int) := by
  have e : bits .and .u64 x (m : Int) = IntKind.u64.wrap ((BitVec.ofInt 64 x &&& BitVec.ofInt 64 (m : Int)).toNat : Int) := rfl
  have h : (BitVec.ofInt 64 x &&& BitVec.ofInt 64 (m : Int)).toNat ≤ m := by
    rw [BitVec.toNat_and, show BitVec.ofInt 64 (m : Int) = BitVec.ofNat 64 m by simp, BitVec.toNat_ofNat, Nat.mod_eq_of_lt (show m < 2 ^ 64 by omega)]
    exact Nat.and_le_right
  exact ⟨_, h, by rw [e, wrap_u64]; omega⟩

def TamePost (w : World) (e : Ending) (w' : World) : Prop := ∃ x : Ins, e = .returned (.agg x.row) ∧ okB x = true ∧ 0 ≤ x.imm ∧ x.imm < 18446744073709551616 ∧ Fr [] w w'

theorem heap_set {w : World} {g i : Nat} {cs : Array Value} {t : TypeId} {fz : Nat × Nat} (h : w.heap[g]? = some (.cells cs t fz)) (v : Value) : (w.setCell ⟨g, i, none⟩ v).heap[g]? = some (.cells (cs.setIfInBounds i v) t fz) := by
  simp [World.setCell, Array.getElem?_modify, h]

set_option maxRecDepth 100000 in
set_option maxHeartbeats 16000000 in
theorem tame_any (op a b alu cc imm d : Int) (hi0 : 0 ≤ imm) (hi1 : imm < 18446744073709551616) (w : World) :
    Calls Try.prog 9 #[.agg #[.int .i64 op, .int .i64 a, .int .i64 b, .int .i64 alu, .int .i64 cc, .int .u64 imm, .int .i64 d]] w (TamePost w) := by
  have HI := Lib.hid (And.intro hi0 hi1)
  clear hi0 hi1
  obtain ⟨M, hM, eM⟩ := and_bd op 255 (by omega)
  obtain ⟨A, hA, eA⟩ := and_bd a 15 (by omega)
  obtain ⟨B, hB, eB⟩ := and_bd b 15 (by omega)
  change bits .and .i64 op 255 = (M : Int) at eM
  change bits .and .i64 a 15 = (A : Int) at eA
  change bits .and .i64 b 15 = (B : Int) at eB
  obtain ⟨j, hj, ej⟩ : ∃ j : Nat, j < 23 ∧ (M : Int) % 23 = (j : Int) := ⟨M % 23, Nat.mod_lt _ (by omega), by omega⟩
  obtain ⟨k, hk, hk1, hk2⟩ : ∃ k : Int, (j : Int) + 1 = k ∧ 1 ≤ k ∧ k ≤ 23 := ⟨_, rfl, by omega, by omega⟩
  obtain ⟨D4, hD4, hD40, hD41⟩ : ∃ D, wrap64 (d * 4294967296) / 4294967296 = D ∧ -2147483648 ≤ D ∧ D ≤ 2147483647 := ⟨_, rfl, by unfold wrap64; omega, by unfold wrap64; omega⟩
  obtain ⟨D1, hD1, hD10, hD11⟩ : ∃ D, wrap64 (d * 72057594037927936) / 72057594037927936 = D ∧ -128 ≤ D ∧ D ≤ 127 := ⟨_, rfl, by unfold wrap64; omega, by unfold wrap64; omega⟩
  go_enter Try.func9, Try.ntmps9
  go_wp2_with fail
  go_quiet (fail)
  go_wp2_with fail
  go_quiet (fail)
  go_upto_region 4 with fail
  refine wp_world (fun W => Fr [] w W ∧ W.heap[w.heap.size]? = some (.cells #[.int .i64 op, .int .i64 a, .int .i64 b, .int .i64 alu, .int .i64 cc, .int .u64 imm, .int .i64 d] 24 (0, 0)) ∧
      W.heap[w.heap.size + 1]? = some (.cells #[.int .i64 0, .int .i64 0, .int .i64 0, .int .i64 0, .int .i64 0, .int .u64 0, .int .i64 0] 24 (0, 0)) ∧
      W.heap[w.heap.size + 1 + 1]? = some (.cells #[.int .i64 k, .int .i64 0, .int .i64 0, .int .i64 0, .int .i64 0, .int .u64 0, .int .i64 0] 24 (0, 0)))
    ⟨(by (repeat' (with_reducible (first | apply Fr.alloc | apply Fr.drew | apply Fr.drewN | exact Fr.refl _ _ | apply Fr.setCell))); all_goals (right; simp; try omega)), (by (repeat' (with_reducible (first | apply heap_drew | apply heap_drewN))); exact heap_old _ (heap_old _ (heap_new _ _))), (by (repeat' (with_reducible (first | apply heap_drew | apply heap_drewN))); exact heap_old _ (heap_at (by simp) rfl)), (by (repeat' (with_reducible (first | apply heap_drew | apply heap_drewN))); exact heap_at (by simp) rfl)⟩ ?_
  rintro W ⟨hW, hB0, hB1, hB2⟩
  obtain ⟨x0, x1, x2, x3, x4, x5, x6, xf⟩ := cells7 hB0
  obtain ⟨y0, y1, y2, y3, y4, y5, y6, yf⟩ := cells7 hB1
  obtain ⟨z0, z1, z2, z3, z4, z5, z6, zf⟩ := cells7 hB2
  have hz := lt_of_heap hB2
  have n0 : ¬ w.heap.size = W.heap.size := by omega
  have n1 : ¬ w.heap.size + 1 = W.heap.size := by omega
  have n2 : ¬ w.heap.size + 1 + 1 = W.heap.size := by omega
  have hz0 : w.heap.size < W.heap.size := by omega
  have hz1 : w.heap.size + 1 < W.heap.size := by omega
  have HW := Lib.hid hW
  clear hB0 hB1 hB2 hW eM eA eB ej hk hD4 hD1
  have hops : k = 1 ∨ k = 2 ∨ k = 3 ∨ k = 4 ∨ k = 5 ∨ k = 6 ∨ k = 7 ∨ k = 8 ∨ k = 9 ∨ k = 10 ∨ k = 11 ∨ k = 12 ∨ k = 13 ∨ k = 14 ∨ k = 15 ∨ k = 16 ∨ k = 17 ∨ k = 18 ∨ k = 19 ∨ k = 20 ∨ k = 21 ∨ k = 22 ∨ k = 23 := by omega
  rcases hops with rfl | rfl | rfl | rfl | rfl | rfl | rfl | rfl | rfl | rfl | rfl | rfl | rfl | rfl | rfl | rfl | rfl | rfl | rfl | rfl | rfl | rfl | rfl
  · go_wp2_with fail
    refine bodyPost_ret (v := .agg #[.int .i64 1, .int .i64 (0), .int .i64 (0), .int .i64 (0), .int .i64 (0), .int .u64 (0), .int .i64 (0)]) (by simp only [results, Try.results9]; simp [go_sem, y0, y1, y2, y3, y4, y5, y6]) rfl ⟨⟨1, 0, 0, 0, 0, 0, 0⟩, rfl, ?_, ?_, ?_, (by (repeat' (with_reducible (first | apply Fr.alloc | apply Fr.drew | apply Fr.drewN | exact HW.out | apply Fr.setCell))); all_goals (right; simp; try omega))⟩
    · (simp [okB, okCond, okRest, regB, wideB, shortB, aluAll, groupOps, condAll] <;> omega)
    · first | (simp; done) | (have h := HI.out; simp; omega)
    · first | (simp; done) | (have h := HI.out; simp; omega)
  · go_wp2_with fail
    refine bodyPost_ret (v := .agg #[.int .i64 2, .int .i64 (0), .int .i64 (0), .int .i64 (0), .int .i64 (0), .int .u64 (0), .int .i64 (0)]) (by simp only [results, Try.results9]; simp [go_sem, y0, y1, y2, y3, y4, y5, y6]) rfl ⟨⟨2, 0, 0, 0, 0, 0, 0⟩, rfl, ?_, ?_, ?_, (by (repeat' (with_reducible (first | apply Fr.alloc | apply Fr.drew | apply Fr.drewN | exact HW.out | apply Fr.setCell))); all_goals (right; simp; try omega))⟩
    · (simp [okB, okCond, okRest, regB, wideB, shortB, aluAll, groupOps, condAll] <;> omega)
    · first | (simp; done) | (have h := HI.out; simp; omega)
    · first | (simp; done) | (have h := HI.out; simp; omega)
  · go_wp2_with fail
    refine bodyPost_ret (v := .agg #[.int .i64 3, .int .i64 (A), .int .i64 (0), .int .i64 (0), .int .i64 (0), .int .u64 (0), .int .i64 (0)]) (by simp only [results, Try.results9]; simp [go_sem, y0, y1, y2, y3, y4, y5, y6]) rfl ⟨⟨3, A, 0, 0, 0, 0, 0⟩, rfl, ?_, ?_, ?_, (by (repeat' (with_reducible (first | apply Fr.alloc | apply Fr.drew | apply Fr.drewN | exact HW.out | apply Fr.setCell))); all_goals (right; simp; try omega))⟩
    · (simp [okB, okCond, okRest, regB, wideB, shortB, aluAll, groupOps, condAll] <;> omega)
    · first | (simp; done) | (have h := HI.out; simp; omega)
    · first | (simp; done) | (have h := HI.out; simp; omega)
  · go_wp2_with fail
    refine bodyPost_ret (v := .agg #[.int .i64 4, .int .i64 (A), .int .i64 (0), .int .i64 (0), .int .i64 (0), .int .u64 (0), .int .i64 (0)]) (by simp only [results, Try.results9]; simp [go_sem, y0, y1, y2, y3, y4, y5, y6]) rfl ⟨⟨4, A, 0, 0, 0, 0, 0⟩, rfl, ?_, ?_, ?_, (by (repeat' (with_reducible (first | apply Fr.alloc | apply Fr.drew | apply Fr.drewN | exact HW.out | apply Fr.setCell))); all_goals (right; simp; try omega))⟩
    · (simp [okB, okCond, okRest, regB, wideB, shortB, aluAll, groupOps, condAll] <;> omega)
    · first | (simp; done) | (have h := HI.out; simp; omega)
    · first | (simp; done) | (have h := HI.out; simp; omega)
  · go_wp2_with fail
    go_region
    go_wp2_with fail
    refine bodyPost_ret (v := .agg #[.int .i64 5, .int .i64 (A), .int .i64 (0), .int .i64 (0), .int .i64 (0), .int .u64 (imm), .int .i64 (0)]) (by simp only [results, Try.results9]; simp [go_sem, y0, y1, y2, y3, y4, y5, y6]) rfl ⟨⟨5, A, 0, 0, 0, imm, 0⟩, rfl, ?_, ?_, ?_, (by (repeat' (with_reducible (first | apply Fr.alloc | apply Fr.drew | apply Fr.drewN | exact HW.out | apply Fr.setCell))); all_goals (right; simp; try omega))⟩
    · (simp [okB, okCond, okRest, regB, wideB, shortB, aluAll, groupOps, condAll] <;> omega)
    · first | (simp; done) | (have h := HI.out; simp; omega)
    · first | (simp; done) | (have h := HI.out; simp; omega)
  · obtain ⟨I, hI, eI⟩ := and_bd_u64 imm 4294967295 (by omega)
    change bits .and .u64 imm 4294967295 = (I : Int) at eI
    go_wp2_with fail
    go_region
    go_wp2_with fail
    refine bodyPost_ret (v := .agg #[.int .i64 6, .int .i64 (A), .int .i64 (0), .int .i64 (0), .int .i64 (0), .int .u64 (I), .int .i64 (0)]) (by simp only [results, Try.results9]; simp [go_sem, y0, y1, y2, y3, y4, y5, y6]) rfl ⟨⟨6, A, 0, 0, 0, I, 0⟩, rfl, ?_, ?_, ?_, (by (repeat' (with_reducible (first | apply Fr.alloc | apply Fr.drew | apply Fr.drewN | exact HW.out | apply Fr.setCell))); all_goals (right; simp; try omega))⟩
    · (simp [okB, okCond, okRest, regB, wideB, shortB, aluAll, groupOps, condAll] <;> omega)
    · first | (simp; done) | (have h := HI.out; simp; omega)
    · first | (simp; done) | (have h := HI.out; simp; omega)
  · obtain ⟨L, hL, eL⟩ := and_bd alu 255 (by omega)
    change bits .and .i64 alu 255 = (L : Int) at eL
    obtain ⟨q, hq0, eq⟩ : ∃ q : Nat, q < 7 ∧ (L : Int) % 7 = (q : Int) := ⟨L % 7, Nat.mod_lt _ (by omega), by omega⟩
    have hq : q = 0 ∨ q = 1 ∨ q = 2 ∨ q = 3 ∨ q = 4 ∨ q = 5 ∨ q = 6 := by omega
    rcases hq with rfl | rfl | rfl | rfl | rfl | rfl | rfl
    · go_wp2_with fail
      go_region
      go_wp2_with fail
      refine bodyPost_ret (v := .agg #[.int .i64 7, .int .i64 (A), .int .i64 (B), .int .i64 (0), .int .i64 (0), .int .u64 (0), .int .i64 (0)]) (by simp only [results, Try.results9]; simp [go_sem, hz1, World.cell?_alloc_lt, y0, y1, y2, y3, y4, y5, y6]) rfl ⟨⟨7, A, B, 0, 0, 0, 0⟩, rfl, ?_, ?_, ?_, (by (repeat' (with_reducible (first | apply Fr.alloc | apply Fr.drew | apply Fr.drewN | exact HW.out | apply Fr.setCell))); all_goals (right; simp; try omega))⟩
      · (simp [okB, okCond, okRest, regB, wideB, shortB, aluAll, groupOps, condAll] <;> omega)
      · first | (simp; done) | (have h := HI.out; simp; omega)
      · first | (simp; done) | (have h := HI.out; simp; omega)
    · go_wp2_with fail
      go_region
      go_wp2_with fail
      refine bodyPost_ret (v := .agg #[.int .i64 7, .int .i64 (A), .int .i64 (B), .int .i64 (1), .int .i64 (0), .int .u64 (0), .int .i64 (0)]) (by simp only [results, Try.results9]; simp [go_sem, hz1, World.cell?_alloc_lt, y0, y1, y2, y3, y4, y5, y6]) rfl ⟨⟨7, A, B, 1, 0, 0, 0⟩, rfl, ?_, ?_, ?_, (by (repeat' (with_reducible (first | apply Fr.alloc | apply Fr.drew | apply Fr.drewN | exact HW.out | apply Fr.setCell))); all_goals (right; simp; try omega))⟩
      · (simp [okB, okCond, okRest, regB, wideB, shortB, aluAll, groupOps, condAll] <;> omega)
      · first | (simp; done) | (have h := HI.out; simp; omega)
      · first | (simp; done) | (have h := HI.out; simp; omega)
    · go_wp2_with fail
      go_region
      go_wp2_with fail
      refine bodyPost_ret (v := .agg #[.int .i64 7, .int .i64 (A), .int .i64 (B), .int .i64 (2), .int .i64 (0), .int .u64 (0), .int .i64 (0)]) (by simp only [results, Try.results9]; simp [go_sem, hz1, World.cell?_alloc_lt, y0, y1, y2, y3, y4, y5, y6]) rfl ⟨⟨7, A, B, 2, 0, 0, 0⟩, rfl, ?_, ?_, ?_, (by (repeat' (with_reducible (first | apply Fr.alloc | apply Fr.drew | apply Fr.drewN | exact HW.out | apply Fr.setCell))); all_goals (right; simp; try omega))⟩
      · (simp [okB, okCond, okRest, regB, wideB, shortB, aluAll, groupOps, condAll] <;> omega)
      · first | (simp; done) | (have h := HI.out; simp; omega)
      · first | (simp; done) | (have h := HI.out; simp; omega)
    · go_wp2_with fail
      go_region
      go_wp2_with fail
      refine bodyPost_ret (v := .agg #[.int .i64 7, .int .i64 (A), .int .i64 (B), .int .i64 (3), .int .i64 (0), .int .u64 (0), .int .i64 (0)]) (by simp only [results, Try.results9]; simp [go_sem, hz1, World.cell?_alloc_lt, y0, y1, y2, y3, y4, y5, y6]) rfl ⟨⟨7, A, B, 3, 0, 0, 0⟩, rfl, ?_, ?_, ?_, (by (repeat' (with_reducible (first | apply Fr.alloc | apply Fr.drew | apply Fr.drewN | exact HW.out | apply Fr.setCell))); all_goals (right; simp; try omega))⟩
      · (simp [okB, okCond, okRest, regB, wideB, shortB, aluAll, groupOps, condAll] <;> omega)
      · first | (simp; done) | (have h := HI.out; simp; omega)
      · first | (simp; done) | (have h := HI.out; simp; omega)
    · go_wp2_with fail
      go_region
      go_wp2_with fail
      refine bodyPost_ret (v := .agg #[.int .i64 7, .int .i64 (A), .int .i64 (B), .int .i64 (4), .int .i64 (0), .int .u64 (0), .int .i64 (0)]) (by simp only [results, Try.results9]; simp [go_sem, hz1, World.cell?_alloc_lt, y0, y1, y2, y3, y4, y5, y6]) rfl ⟨⟨7, A, B, 4, 0, 0, 0⟩, rfl, ?_, ?_, ?_, (by (repeat' (with_reducible (first | apply Fr.alloc | apply Fr.drew | apply Fr.drewN | exact HW.out | apply Fr.setCell))); all_goals (right; simp; try omega))⟩
      · (simp [okB, okCond, okRest, regB, wideB, shortB, aluAll, groupOps, condAll] <;> omega)
      · first | (simp; done) | (have h := HI.out; simp; omega)
      · first | (simp; done) | (have h := HI.out; simp; omega)
    · go_wp2_with fail
      go_region
      go_wp2_with fail
      refine bodyPost_ret (v := .agg #[.int .i64 7, .int .i64 (A), .int .i64 (B), .int .i64 (7), .int .i64 (0), .int .u64 (0), .int .i64 (0)]) (by simp only [results, Try.results9]; simp [go_sem, hz1, World.cell?_alloc_lt, y0, y1, y2, y3, y4, y5, y6]) rfl ⟨⟨7, A, B, 7, 0, 0, 0⟩, rfl, ?_, ?_, ?_, (by (repeat' (with_reducible (first | apply Fr.alloc | apply Fr.drew | apply Fr.drewN | exact HW.out | apply Fr.setCell))); all_goals (right; simp; try omega))⟩
      · (simp [okB, okCond, okRest, regB, wideB, shortB, aluAll, groupOps, condAll] <;> omega)
      · first | (simp; done) | (have h := HI.out; simp; omega)
      · first | (simp; done) | (have h := HI.out; simp; omega)
    · go_wp2_with fail
      go_region
      go_wp2_with fail
      refine bodyPost_ret (v := .agg #[.int .i64 7, .int .i64 (A), .int .i64 (B), .int .i64 (8), .int .i64 (0), .int .u64 (0), .int .i64 (0)]) (by simp only [results, Try.results9]; simp [go_sem, hz1, World.cell?_alloc_lt, y0, y1, y2, y3, y4, y5, y6]) rfl ⟨⟨7, A, B, 8, 0, 0, 0⟩, rfl, ?_, ?_, ?_, (by (repeat' (with_reducible (first | apply Fr.alloc | apply Fr.drew | apply Fr.drewN | exact HW.out | apply Fr.setCell))); all_goals (right; simp; try omega))⟩
      · (simp [okB, okCond, okRest, regB, wideB, shortB, aluAll, groupOps, condAll] <;> omega)
      · first | (simp; done) | (have h := HI.out; simp; omega)
      · first | (simp; done) | (have h := HI.out; simp; omega)
  · go_wp2_with fail
    refine bodyPost_ret (v := .agg #[.int .i64 8, .int .i64 (A), .int .i64 (B), .int .i64 (0), .int .i64 (0), .int .u64 (0), .int .i64 (0)]) (by simp only [results, Try.results9]; simp [go_sem, y0, y1, y2, y3, y4, y5, y6]) rfl ⟨⟨8, A, B, 0, 0, 0, 0⟩, rfl, ?_, ?_, ?_, (by (repeat' (with_reducible (first | apply Fr.alloc | apply Fr.drew | apply Fr.drewN | exact HW.out | apply Fr.setCell))); all_goals (right; simp; try omega))⟩
    · (simp [okB, okCond, okRest, regB, wideB, shortB, aluAll, groupOps, condAll] <;> omega)
    · first | (simp; done) | (have h := HI.out; simp; omega)
    · first | (simp; done) | (have h := HI.out; simp; omega)
  · have e7 := bits_and7 .i64 B (by omega) rfl
    by_cases h4 : B % 8 = 4
    · have t4 : ((B : Int) % 8 == 4) = true := by simp; omega
      have B7 := bits_and7 .i64 (B + 1) (by omega) rfl
      go_wp2_with fail
      refine bodyPost_ret (v := .agg #[.int .i64 9, .int .i64 (A), .int .i64 (B + 1), .int .i64 (0), .int .i64 (0), .int .u64 (0), .int .i64 (D4)]) (by simp only [results, Try.results9]; simp [go_sem, y0, y1, y2, y3, y4, y5, y6]) rfl ⟨⟨9, A, B + 1, 0, 0, 0, D4⟩, rfl, ?_, ?_, ?_, (by (repeat' (with_reducible (first | apply Fr.alloc | apply Fr.drew | apply Fr.drewN | exact HW.out | apply Fr.setCell))); all_goals (right; simp; try omega))⟩
      · (simp [okB, okCond, okRest, regB, wideB, shortB, aluAll, groupOps, condAll, show bits .and .i64 ((B : Int) + 1) 7 = ((B : Int) + 1) % 8 from B7] <;> omega)
      · first | (simp; done) | (have h := HI.out; simp; omega)
      · first | (simp; done) | (have h := HI.out; simp; omega)
    · have t4 : ((B : Int) % 8 == 4) = false := by simp; omega
      go_wp2_with fail
      refine bodyPost_ret (v := .agg #[.int .i64 9, .int .i64 (A), .int .i64 (B), .int .i64 (0), .int .i64 (0), .int .u64 (0), .int .i64 (D4)]) (by simp only [results, Try.results9]; simp [go_sem, y0, y1, y2, y3, y4, y5, y6]) rfl ⟨⟨9, A, B, 0, 0, 0, D4⟩, rfl, ?_, ?_, ?_, (by (repeat' (with_reducible (first | apply Fr.alloc | apply Fr.drew | apply Fr.drewN | exact HW.out | apply Fr.setCell))); all_goals (right; simp; try omega))⟩
      · (simp [okB, okCond, okRest, regB, wideB, shortB, aluAll, groupOps, condAll, e7] <;> omega)
      · first | (simp; done) | (have h := HI.out; simp; omega)
      · first | (simp; done) | (have h := HI.out; simp; omega)
  · have e7 := bits_and7 .i64 B (by omega) rfl
    by_cases h4 : B % 8 = 4
    · have t4 : ((B : Int) % 8 == 4) = true := by simp; omega
      have B7 := bits_and7 .i64 (B + 1) (by omega) rfl
      go_wp2_with fail
      refine bodyPost_ret (v := .agg #[.int .i64 10, .int .i64 (A), .int .i64 (B + 1), .int .i64 (0), .int .i64 (0), .int .u64 (0), .int .i64 (D4)]) (by simp only [results, Try.results9]; simp [go_sem, y0, y1, y2, y3, y4, y5, y6]) rfl ⟨⟨10, A, B + 1, 0, 0, 0, D4⟩, rfl, ?_, ?_, ?_, (by (repeat' (with_reducible (first | apply Fr.alloc | apply Fr.drew | apply Fr.drewN | exact HW.out | apply Fr.setCell))); all_goals (right; simp; try omega))⟩
      · (simp [okB, okCond, okRest, regB, wideB, shortB, aluAll, groupOps, condAll, show bits .and .i64 ((B : Int) + 1) 7 = ((B : Int) + 1) % 8 from B7] <;> omega)
      · first | (simp; done) | (have h := HI.out; simp; omega)
      · first | (simp; done) | (have h := HI.out; simp; omega)
    · have t4 : ((B : Int) % 8 == 4) = false := by simp; omega
      go_wp2_with fail
      refine bodyPost_ret (v := .agg #[.int .i64 10, .int .i64 (A), .int .i64 (B), .int .i64 (0), .int .i64 (0), .int .u64 (0), .int .i64 (D4)]) (by simp only [results, Try.results9]; simp [go_sem, y0, y1, y2, y3, y4, y5, y6]) rfl ⟨⟨10, A, B, 0, 0, 0, D4⟩, rfl, ?_, ?_, ?_, (by (repeat' (with_reducible (first | apply Fr.alloc | apply Fr.drew | apply Fr.drewN | exact HW.out | apply Fr.setCell))); all_goals (right; simp; try omega))⟩
      · (simp [okB, okCond, okRest, regB, wideB, shortB, aluAll, groupOps, condAll, e7] <;> omega)
      · first | (simp; done) | (have h := HI.out; simp; omega)
      · first | (simp; done) | (have h := HI.out; simp; omega)
  · go_wp2_with fail
    refine bodyPost_ret (v := .agg #[.int .i64 11, .int .i64 (A), .int .i64 (0), .int .i64 (0), .int .i64 (0), .int .u64 (0), .int .i64 (D4)]) (by simp only [results, Try.results9]; simp [go_sem, y0, y1, y2, y3, y4, y5, y6]) rfl ⟨⟨11, A, 0, 0, 0, 0, D4⟩, rfl, ?_, ?_, ?_, (by (repeat' (with_reducible (first | apply Fr.alloc | apply Fr.drew | apply Fr.drewN | exact HW.out | apply Fr.setCell))); all_goals (right; simp; try omega))⟩
    · (simp [okB, okCond, okRest, regB, wideB, shortB, aluAll, groupOps, condAll] <;> omega)
    · first | (simp; done) | (have h := HI.out; simp; omega)
    · first | (simp; done) | (have h := HI.out; simp; omega)
  · go_wp2_with fail
    refine bodyPost_ret (v := .agg #[.int .i64 12, .int .i64 (A), .int .i64 (0), .int .i64 (0), .int .i64 (0), .int .u64 (0), .int .i64 (D4)]) (by simp only [results, Try.results9]; simp [go_sem, y0, y1, y2, y3, y4, y5, y6]) rfl ⟨⟨12, A, 0, 0, 0, 0, D4⟩, rfl, ?_, ?_, ?_, (by (repeat' (with_reducible (first | apply Fr.alloc | apply Fr.drew | apply Fr.drewN | exact HW.out | apply Fr.setCell))); all_goals (right; simp; try omega))⟩
    · (simp [okB, okCond, okRest, regB, wideB, shortB, aluAll, groupOps, condAll] <;> omega)
    · first | (simp; done) | (have h := HI.out; simp; omega)
    · first | (simp; done) | (have h := HI.out; simp; omega)
  · go_wp2_with fail
    refine bodyPost_ret (v := .agg #[.int .i64 13, .int .i64 (A), .int .i64 (0), .int .i64 (0), .int .i64 (0), .int .u64 (0), .int .i64 (D4)]) (by simp only [results, Try.results9]; simp [go_sem, y0, y1, y2, y3, y4, y5, y6]) rfl ⟨⟨13, A, 0, 0, 0, 0, D4⟩, rfl, ?_, ?_, ?_, (by (repeat' (with_reducible (first | apply Fr.alloc | apply Fr.drew | apply Fr.drewN | exact HW.out | apply Fr.setCell))); all_goals (right; simp; try omega))⟩
    · (simp [okB, okCond, okRest, regB, wideB, shortB, aluAll, groupOps, condAll] <;> omega)
    · first | (simp; done) | (have h := HI.out; simp; omega)
    · first | (simp; done) | (have h := HI.out; simp; omega)
  · obtain ⟨S, hS, hS0, hS1⟩ : ∃ S, wrap64 (wrap64 imm * 72057594037927936) / 72057594037927936 = S ∧ -128 ≤ S ∧ S ≤ 127 := ⟨_, rfl, by unfold wrap64; omega, by unfold wrap64; omega⟩
    obtain ⟨I, hI, wI, hI0, hI1⟩ : ∃ I, IntKind.u64.wrap S = I ∧ wrap64 I = S ∧ 0 ≤ I ∧ Hid (I < 18446744073709551616) := ⟨_, rfl, by rw [wrap_u64]; unfold wrap64; omega, by rw [wrap_u64]; omega, Lib.hid (by rw [wrap_u64]; omega)⟩
    obtain ⟨L, hL, eL⟩ := and_bd alu 255 (by omega)
    change bits .and .i64 alu 255 = (L : Int) at eL
    obtain ⟨q, hq0, eq⟩ : ∃ q : Nat, q < 3 ∧ (L : Int) % 3 = (q : Int) := ⟨L % 3, Nat.mod_lt _ (by omega), by omega⟩
    have hq : q = 0 ∨ q = 1 ∨ q = 2 := by omega
    rcases hq with rfl | rfl | rfl
    · go_wp2_with fail
      go_region
      go_wp2_with fail
      refine bodyPost_ret (v := .agg #[.int .i64 14, .int .i64 (0), .int .i64 (B), .int .i64 (0), .int .i64 (0), .int .u64 (I), .int .i64 (0)]) (by simp only [results, Try.results9]; simp [go_sem, hz1, World.cell?_alloc_lt, y0, y1, y2, y3, y4, y5, y6]) rfl ⟨⟨14, 0, B, 0, 0, I, 0⟩, rfl, ?_, ?_, ?_, (by (repeat' (with_reducible (first | apply Fr.alloc | apply Fr.drew | apply Fr.drewN | exact HW.out | apply Fr.setCell))); all_goals (right; simp; try omega))⟩
      · (simp [okB, okCond, okRest, regB, wideB, shortB, aluAll, groupOps, condAll, wI] <;> omega)
      · first | (simp; done) | (have h := HI.out; simp; omega)
      · first | (simp; done) | (have h := HI.out; simp; omega) | exact hI1.out
    · go_wp2_with fail
      go_region
      go_wp2_with fail
      refine bodyPost_ret (v := .agg #[.int .i64 14, .int .i64 (0), .int .i64 (B), .int .i64 (1), .int .i64 (0), .int .u64 (I), .int .i64 (0)]) (by simp only [results, Try.results9]; simp [go_sem, hz1, World.cell?_alloc_lt, y0, y1, y2, y3, y4, y5, y6]) rfl ⟨⟨14, 0, B, 1, 0, I, 0⟩, rfl, ?_, ?_, ?_, (by (repeat' (with_reducible (first | apply Fr.alloc | apply Fr.drew | apply Fr.drewN | exact HW.out | apply Fr.setCell))); all_goals (right; simp; try omega))⟩
      · (simp [okB, okCond, okRest, regB, wideB, shortB, aluAll, groupOps, condAll, wI] <;> omega)
      · first | (simp; done) | (have h := HI.out; simp; omega)
      · first | (simp; done) | (have h := HI.out; simp; omega) | exact hI1.out
    · go_wp2_with fail
      go_region
      go_wp2_with fail
      refine bodyPost_ret (v := .agg #[.int .i64 14, .int .i64 (0), .int .i64 (B), .int .i64 (7), .int .i64 (0), .int .u64 (I), .int .i64 (0)]) (by simp only [results, Try.results9]; simp [go_sem, hz1, World.cell?_alloc_lt, y0, y1, y2, y3, y4, y5, y6]) rfl ⟨⟨14, 0, B, 7, 0, I, 0⟩, rfl, ?_, ?_, ?_, (by (repeat' (with_reducible (first | apply Fr.alloc | apply Fr.drew | apply Fr.drewN | exact HW.out | apply Fr.setCell))); all_goals (right; simp; try omega))⟩
      · (simp [okB, okCond, okRest, regB, wideB, shortB, aluAll, groupOps, condAll, wI] <;> omega)
      · first | (simp; done) | (have h := HI.out; simp; omega)
      · first | (simp; done) | (have h := HI.out; simp; omega) | exact hI1.out
  · obtain ⟨L, hL, eL⟩ := and_bd alu 1 (by omega)
    change bits .and .i64 alu 1 = (L : Int) at eL
    have hq : L = 0 ∨ L = 1 := by omega
    rcases hq with rfl | rfl
    · go_wp2_with fail
      go_region
      go_wp2_with fail
      refine bodyPost_ret (v := .agg #[.int .i64 15, .int .i64 (0), .int .i64 (B), .int .i64 (5), .int .i64 (0), .int .u64 (0), .int .i64 (0)]) (by simp only [results, Try.results9]; simp [go_sem, hz1, World.cell?_alloc_lt, y0, y1, y2, y3, y4, y5, y6]) rfl ⟨⟨15, 0, B, 5, 0, 0, 0⟩, rfl, ?_, ?_, ?_, (by (repeat' (with_reducible (first | apply Fr.alloc | apply Fr.drew | apply Fr.drewN | exact HW.out | apply Fr.setCell))); all_goals (right; simp; try omega))⟩
      · (simp [okB, okCond, okRest, regB, wideB, shortB, aluAll, groupOps, condAll] <;> omega)
      · first | (simp; done) | (have h := HI.out; simp; omega)
      · first | (simp; done) | (have h := HI.out; simp; omega)
    · go_wp2_with fail
      go_region
      go_wp2_with fail
      refine bodyPost_ret (v := .agg #[.int .i64 15, .int .i64 (0), .int .i64 (B), .int .i64 (6), .int .i64 (0), .int .u64 (0), .int .i64 (0)]) (by simp only [results, Try.results9]; simp [go_sem, hz1, World.cell?_alloc_lt, y0, y1, y2, y3, y4, y5, y6]) rfl ⟨⟨15, 0, B, 6, 0, 0, 0⟩, rfl, ?_, ?_, ?_, (by (repeat' (with_reducible (first | apply Fr.alloc | apply Fr.drew | apply Fr.drewN | exact HW.out | apply Fr.setCell))); all_goals (right; simp; try omega))⟩
      · (simp [okB, okCond, okRest, regB, wideB, shortB, aluAll, groupOps, condAll] <;> omega)
      · first | (simp; done) | (have h := HI.out; simp; omega)
      · first | (simp; done) | (have h := HI.out; simp; omega)
  · obtain ⟨I, hI, eI⟩ := and_bd_u64 imm 255 (by omega)
    change bits .and .u64 imm 255 = (I : Int) at eI
    obtain ⟨L, hL, eL⟩ := and_bd alu 1 (by omega)
    change bits .and .i64 alu 1 = (L : Int) at eL
    have hq : L = 0 ∨ L = 1 := by omega
    rcases hq with rfl | rfl
    · go_wp2_with fail
      go_region
      go_wp2_with fail
      refine bodyPost_ret (v := .agg #[.int .i64 16, .int .i64 (0), .int .i64 (B), .int .i64 (9), .int .i64 (0), .int .u64 (I), .int .i64 (0)]) (by simp only [results, Try.results9]; simp [go_sem, hz1, World.cell?_alloc_lt, y0, y1, y2, y3, y4, y5, y6]) rfl ⟨⟨16, 0, B, 9, 0, I, 0⟩, rfl, ?_, ?_, ?_, (by (repeat' (with_reducible (first | apply Fr.alloc | apply Fr.drew | apply Fr.drewN | exact HW.out | apply Fr.setCell))); all_goals (right; simp; try omega))⟩
      · (simp [okB, okCond, okRest, regB, wideB, shortB, aluAll, groupOps, condAll] <;> omega)
      · first | (simp; done) | (have h := HI.out; simp; omega)
      · first | (simp; done) | (have h := HI.out; simp; omega)
    · go_wp2_with fail
      go_region
      go_wp2_with fail
      refine bodyPost_ret (v := .agg #[.int .i64 16, .int .i64 (0), .int .i64 (B), .int .i64 (10), .int .i64 (0), .int .u64 (I), .int .i64 (0)]) (by simp only [results, Try.results9]; simp [go_sem, hz1, World.cell?_alloc_lt, y0, y1, y2, y3, y4, y5, y6]) rfl ⟨⟨16, 0, B, 10, 0, I, 0⟩, rfl, ?_, ?_, ?_, (by (repeat' (with_reducible (first | apply Fr.alloc | apply Fr.drew | apply Fr.drewN | exact HW.out | apply Fr.setCell))); all_goals (right; simp; try omega))⟩
      · (simp [okB, okCond, okRest, regB, wideB, shortB, aluAll, groupOps, condAll] <;> omega)
      · first | (simp; done) | (have h := HI.out; simp; omega)
      · first | (simp; done) | (have h := HI.out; simp; omega)
  · go_wp2_with fail
    refine bodyPost_ret (v := .agg #[.int .i64 17, .int .i64 (0), .int .i64 (0), .int .i64 (0), .int .i64 (0), .int .u64 (0), .int .i64 (D4)]) (by simp only [results, Try.results9]; simp [go_sem, y0, y1, y2, y3, y4, y5, y6]) rfl ⟨⟨17, 0, 0, 0, 0, 0, D4⟩, rfl, ?_, ?_, ?_, (by (repeat' (with_reducible (first | apply Fr.alloc | apply Fr.drew | apply Fr.drewN | exact HW.out | apply Fr.setCell))); all_goals (right; simp; try omega))⟩
    · (simp [okB, okCond, okRest, regB, wideB, shortB, aluAll, groupOps, condAll] <;> omega)
    · first | (simp; done) | (have h := HI.out; simp; omega)
    · first | (simp; done) | (have h := HI.out; simp; omega)
  · go_wp2_with fail
    refine bodyPost_ret (v := .agg #[.int .i64 18, .int .i64 (0), .int .i64 (0), .int .i64 (0), .int .i64 (0), .int .u64 (0), .int .i64 (D4)]) (by simp only [results, Try.results9]; simp [go_sem, y0, y1, y2, y3, y4, y5, y6]) rfl ⟨⟨18, 0, 0, 0, 0, 0, D4⟩, rfl, ?_, ?_, ?_, (by (repeat' (with_reducible (first | apply Fr.alloc | apply Fr.drew | apply Fr.drewN | exact HW.out | apply Fr.setCell))); all_goals (right; simp; try omega))⟩
    · (simp [okB, okCond, okRest, regB, wideB, shortB, aluAll, groupOps, condAll] <;> omega)
    · first | (simp; done) | (have h := HI.out; simp; omega)
    · first | (simp; done) | (have h := HI.out; simp; omega)
  · go_wp2_with fail
    refine bodyPost_ret (v := .agg #[.int .i64 19, .int .i64 (0), .int .i64 (0), .int .i64 (0), .int .i64 (0), .int .u64 (0), .int .i64 (D1)]) (by simp only [results, Try.results9]; simp [go_sem, y0, y1, y2, y3, y4, y5, y6]) rfl ⟨⟨19, 0, 0, 0, 0, 0, D1⟩, rfl, ?_, ?_, ?_, (by (repeat' (with_reducible (first | apply Fr.alloc | apply Fr.drew | apply Fr.drewN | exact HW.out | apply Fr.setCell))); all_goals (right; simp; try omega))⟩
    · (simp [okB, okCond, okRest, regB, wideB, shortB, aluAll, groupOps, condAll] <;> omega)
    · first | (simp; done) | (have h := HI.out; simp; omega)
    · first | (simp; done) | (have h := HI.out; simp; omega)
  · obtain ⟨L, hL, eL⟩ := and_bd cc 7 (by omega)
    change bits .and .i64 cc 7 = (L : Int) at eL
    have hq : L = 0 ∨ L = 1 ∨ L = 2 ∨ L = 3 ∨ L = 4 ∨ L = 5 ∨ L = 6 ∨ L = 7 := by omega
    rcases hq with rfl | rfl | rfl | rfl | rfl | rfl | rfl | rfl
    · go_wp2_with fail
      refine bodyPost_ret (v := .agg #[.int .i64 20, .int .i64 (0), .int .i64 (0), .int .i64 (0), .int .i64 (2), .int .u64 (0), .int .i64 (D1)]) (by simp only [results, Try.results9]; simp [go_sem, hz1, World.cell?_alloc_lt, y0, y1, y2, y3, y4, y5, y6]) rfl ⟨⟨20, 0, 0, 0, 2, 0, D1⟩, rfl, ?_, ?_, ?_, (by (repeat' (with_reducible (first | apply Fr.alloc | apply Fr.drew | apply Fr.drewN | exact HW.out | apply Fr.setCell))); all_goals (right; simp; try omega))⟩
      · (simp [okB, okCond, okRest, regB, wideB, shortB, aluAll, groupOps, condAll] <;> omega)
      · first | (simp; done) | (have h := HI.out; simp; omega)
      · first | (simp; done) | (have h := HI.out; simp; omega)
    · go_wp2_with fail
      refine bodyPost_ret (v := .agg #[.int .i64 20, .int .i64 (0), .int .i64 (0), .int .i64 (0), .int .i64 (3), .int .u64 (0), .int .i64 (D1)]) (by simp only [results, Try.results9]; simp [go_sem, hz1, World.cell?_alloc_lt, y0, y1, y2, y3, y4, y5, y6]) rfl ⟨⟨20, 0, 0, 0, 3, 0, D1⟩, rfl, ?_, ?_, ?_, (by (repeat' (with_reducible (first | apply Fr.alloc | apply Fr.drew | apply Fr.drewN | exact HW.out | apply Fr.setCell))); all_goals (right; simp; try omega))⟩
      · (simp [okB, okCond, okRest, regB, wideB, shortB, aluAll, groupOps, condAll] <;> omega)
      · first | (simp; done) | (have h := HI.out; simp; omega)
      · first | (simp; done) | (have h := HI.out; simp; omega)
    · go_wp2_with fail
      refine bodyPost_ret (v := .agg #[.int .i64 20, .int .i64 (0), .int .i64 (0), .int .i64 (0), .int .i64 (4), .int .u64 (0), .int .i64 (D1)]) (by simp only [results, Try.results9]; simp [go_sem, hz1, World.cell?_alloc_lt, y0, y1, y2, y3, y4, y5, y6]) rfl ⟨⟨20, 0, 0, 0, 4, 0, D1⟩, rfl, ?_, ?_, ?_, (by (repeat' (with_reducible (first | apply Fr.alloc | apply Fr.drew | apply Fr.drewN | exact HW.out | apply Fr.setCell))); all_goals (right; simp; try omega))⟩
      · (simp [okB, okCond, okRest, regB, wideB, shortB, aluAll, groupOps, condAll] <;> omega)
      · first | (simp; done) | (have h := HI.out; simp; omega)
      · first | (simp; done) | (have h := HI.out; simp; omega)
    · go_wp2_with fail
      refine bodyPost_ret (v := .agg #[.int .i64 20, .int .i64 (0), .int .i64 (0), .int .i64 (0), .int .i64 (5), .int .u64 (0), .int .i64 (D1)]) (by simp only [results, Try.results9]; simp [go_sem, hz1, World.cell?_alloc_lt, y0, y1, y2, y3, y4, y5, y6]) rfl ⟨⟨20, 0, 0, 0, 5, 0, D1⟩, rfl, ?_, ?_, ?_, (by (repeat' (with_reducible (first | apply Fr.alloc | apply Fr.drew | apply Fr.drewN | exact HW.out | apply Fr.setCell))); all_goals (right; simp; try omega))⟩
      · (simp [okB, okCond, okRest, regB, wideB, shortB, aluAll, groupOps, condAll] <;> omega)
      · first | (simp; done) | (have h := HI.out; simp; omega)
      · first | (simp; done) | (have h := HI.out; simp; omega)
    · go_wp2_with fail
      refine bodyPost_ret (v := .agg #[.int .i64 20, .int .i64 (0), .int .i64 (0), .int .i64 (0), .int .i64 (8), .int .u64 (0), .int .i64 (D1)]) (by simp only [results, Try.results9]; simp [go_sem, hz1, World.cell?_alloc_lt, y0, y1, y2, y3, y4, y5, y6]) rfl ⟨⟨20, 0, 0, 0, 8, 0, D1⟩, rfl, ?_, ?_, ?_, (by (repeat' (with_reducible (first | apply Fr.alloc | apply Fr.drew | apply Fr.drewN | exact HW.out | apply Fr.setCell))); all_goals (right; simp; try omega))⟩
      · (simp [okB, okCond, okRest, regB, wideB, shortB, aluAll, groupOps, condAll] <;> omega)
      · first | (simp; done) | (have h := HI.out; simp; omega)
      · first | (simp; done) | (have h := HI.out; simp; omega)
    · go_wp2_with fail
      refine bodyPost_ret (v := .agg #[.int .i64 20, .int .i64 (0), .int .i64 (0), .int .i64 (0), .int .i64 (9), .int .u64 (0), .int .i64 (D1)]) (by simp only [results, Try.results9]; simp [go_sem, hz1, World.cell?_alloc_lt, y0, y1, y2, y3, y4, y5, y6]) rfl ⟨⟨20, 0, 0, 0, 9, 0, D1⟩, rfl, ?_, ?_, ?_, (by (repeat' (with_reducible (first | apply Fr.alloc | apply Fr.drew | apply Fr.drewN | exact HW.out | apply Fr.setCell))); all_goals (right; simp; try omega))⟩
      · (simp [okB, okCond, okRest, regB, wideB, shortB, aluAll, groupOps, condAll] <;> omega)
      · first | (simp; done) | (have h := HI.out; simp; omega)
      · first | (simp; done) | (have h := HI.out; simp; omega)
    · go_wp2_with fail
      refine bodyPost_ret (v := .agg #[.int .i64 20, .int .i64 (0), .int .i64 (0), .int .i64 (0), .int .i64 (12), .int .u64 (0), .int .i64 (D1)]) (by simp only [results, Try.results9]; simp [go_sem, hz1, World.cell?_alloc_lt, y0, y1, y2, y3, y4, y5, y6]) rfl ⟨⟨20, 0, 0, 0, 12, 0, D1⟩, rfl, ?_, ?_, ?_, (by (repeat' (with_reducible (first | apply Fr.alloc | apply Fr.drew | apply Fr.drewN | exact HW.out | apply Fr.setCell))); all_goals (right; simp; try omega))⟩
      · (simp [okB, okCond, okRest, regB, wideB, shortB, aluAll, groupOps, condAll] <;> omega)
      · first | (simp; done) | (have h := HI.out; simp; omega)
      · first | (simp; done) | (have h := HI.out; simp; omega)
    · go_wp2_with fail
      refine bodyPost_ret (v := .agg #[.int .i64 20, .int .i64 (0), .int .i64 (0), .int .i64 (0), .int .i64 (13), .int .u64 (0), .int .i64 (D1)]) (by simp only [results, Try.results9]; simp [go_sem, hz1, World.cell?_alloc_lt, y0, y1, y2, y3, y4, y5, y6]) rfl ⟨⟨20, 0, 0, 0, 13, 0, D1⟩, rfl, ?_, ?_, ?_, (by (repeat' (with_reducible (first | apply Fr.alloc | apply Fr.drew | apply Fr.drewN | exact HW.out | apply Fr.setCell))); all_goals (right; simp; try omega))⟩
      · (simp [okB, okCond, okRest, regB, wideB, shortB, aluAll, groupOps, condAll] <;> omega)
      · first | (simp; done) | (have h := HI.out; simp; omega)
      · first | (simp; done) | (have h := HI.out; simp; omega)
  · go_wp2_with fail
    refine bodyPost_ret (v := .agg #[.int .i64 21, .int .i64 (0), .int .i64 (0), .int .i64 (0), .int .i64 (0), .int .u64 (0), .int .i64 (D4)]) (by simp only [results, Try.results9]; simp [go_sem, y0, y1, y2, y3, y4, y5, y6]) rfl ⟨⟨21, 0, 0, 0, 0, 0, D4⟩, rfl, ?_, ?_, ?_, (by (repeat' (with_reducible (first | apply Fr.alloc | apply Fr.drew | apply Fr.drewN | exact HW.out | apply Fr.setCell))); all_goals (right; simp; try omega))⟩
    · (simp [okB, okCond, okRest, regB, wideB, shortB, aluAll, groupOps, condAll] <;> omega)
    · first | (simp; done) | (have h := HI.out; simp; omega)
    · first | (simp; done) | (have h := HI.out; simp; omega)
  · go_wp2_with fail
    refine bodyPost_ret (v := .agg #[.int .i64 22, .int .i64 (0), .int .i64 (0), .int .i64 (0), .int .i64 (0), .int .u64 (0), .int .i64 (D4)]) (by simp only [results, Try.results9]; simp [go_sem, y0, y1, y2, y3, y4, y5, y6]) rfl ⟨⟨22, 0, 0, 0, 0, 0, D4⟩, rfl, ?_, ?_, ?_, (by (repeat' (with_reducible (first | apply Fr.alloc | apply Fr.drew | apply Fr.drewN | exact HW.out | apply Fr.setCell))); all_goals (right; simp; try omega))⟩
    · (simp [okB, okCond, okRest, regB, wideB, shortB, aluAll, groupOps, condAll] <;> omega)
    · first | (simp; done) | (have h := HI.out; simp; omega)
    · first | (simp; done) | (have h := HI.out; simp; omega)
  · obtain ⟨I, hI, eI⟩ := and_bd_u64 imm 255 (by omega)
    change bits .and .u64 imm 255 = (I : Int) at eI
    go_wp2_with fail
    refine bodyPost_ret (v := .agg #[.int .i64 23, .int .i64 (0), .int .i64 (0), .int .i64 (0), .int .i64 (0), .int .u64 (I), .int .i64 (0)]) (by simp only [results, Try.results9]; simp [go_sem, y0, y1, y2, y3, y4, y5, y6]) rfl ⟨⟨23, 0, 0, 0, 0, I, 0⟩, rfl, ?_, ?_, ?_, (by (repeat' (with_reducible (first | apply Fr.alloc | apply Fr.drew | apply Fr.drewN | exact HW.out | apply Fr.setCell))); all_goals (right; simp; try omega))⟩
    · (simp [okB, okCond, okRest, regB, wideB, shortB, aluAll, groupOps, condAll] <;> omega)
    · first | (simp; done) | (have h := HI.out; simp; omega)
    · first | (simp; done) | (have h := HI.out; simp; omega)
end Go.Proofs.Ytegnmnhdpnmnpaa
