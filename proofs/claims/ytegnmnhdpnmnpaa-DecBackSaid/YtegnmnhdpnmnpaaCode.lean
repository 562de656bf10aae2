/- dec.code, walked op by op. -/
import Derived.Deep.RegionHeld3
import Derived.Deep.DeepCutAuto
import Derived.Deep.Light
import Derived.Test.YtegnmnhdpnmnpaaEnc
import Derived.Test.YtegnmnhdpnmnpaaFill
namespace Go.Proofs.Ytegnmnhdpnmnpaa
set_option linter.unusedVariables false
set_option linter.unusedSimpArgs false
open Go.RowKit

theorem cells7' {w : World} {g : Nat} {a b c d e f i : Value} {t : TypeId} (h : w.heap[g]? = some (.cells #[a, b, c, d, e, f, i] t (0, 0))) :
    w.cell? ⟨g, 0, none⟩ = some a ∧ w.cell? ⟨g, 1, none⟩ = some b ∧ w.cell? ⟨g, 2, none⟩ = some c ∧ w.cell? ⟨g, 3, none⟩ = some d ∧ w.cell? ⟨g, 4, none⟩ = some e ∧ w.cell? ⟨g, 5, none⟩ = some f ∧ w.cell? ⟨g, 6, none⟩ = some i :=
  ⟨cell_of_heap h rfl, cell_of_heap h rfl, cell_of_heap h rfl, cell_of_heap h rfl, cell_of_heap h rfl, cell_of_heap h rfl, cell_of_heap h rfl⟩
theorem grown_heap {w w' : World} {row : Option Nat} {k : Nat} {o : Obj} (g : w.grownBy w' row) (h : w.heap[k]? = some o) (hn : row ≠ some k) : w'.heap[k]? = some o := (g.block k (lt_of_heap h) (fun e => hn e.symm)).trans h
theorem rexI_bd (a b : Int) : 0 ≤ rexI a b ∧ rexI a b < 256 := by unfold rexI; split <;> split <;> omega

set_option maxRecDepth 100000 in
set_option maxHeartbeats 4000000 in
theorem code_9 (a b alu cc imm d : Int) (ha0 : 0 ≤ a) (ha1 : a ≤ 15) (hb0 : 0 ≤ b) (hb1 : b ≤ 15) (w : World) :
    Calls Try.prog 22 #[.agg #[.int .i64 9, .int .i64 a, .int .i64 b, .int .i64 alu, .int .i64 cc, .int .u64 imm, .int .i64 d]] w fun e w' => ∃ sv, e = .returned sv ∧ OwnB w.heap.size w' sv ([ub (rexI a b), 139, ub (128 + 8 * (a % 8) + b % 8)] ++ leB d 4) ∧ Fr [] w w' := by
  obtain ⟨c0, hc0⟩ : ∃ c0, ub (rexI a b) = c0 := ⟨_, rfl⟩
  obtain ⟨c2, hc2⟩ : ∃ c2, ub (128 + 8 * (a % 8) + b % 8) = c2 := ⟨_, rfl⟩
  have RX : ∀ W, Calls Try.prog 19 #[.int .i64 a, .int .i64 b] W fun e w' => e = .returned (.int .u8 (c0.toNat : Int)) ∧ W = w' := fun W => by
    rw [← hc0, ub_id (rexI_bd a b).1 (rexI_bd a b).2]; exact rex_any a b W
  have MD : ∀ W, Calls Try.prog 41 #[.int .i64 128, .int .i64 a, .int .i64 b] W fun e w' => e = .returned (.int .u8 (c2.toNat : Int)) ∧ W = w' := fun W => by
    rw [← hc2, ub_id (by omega) (by omega)]; exact mod_any 128 a b (by omega) (by omega) (by omega) (by omega) (by omega) W
  rw [hc0, hc2]
  clear hc0 hc2 ha0 ha1 hb0 hb1
  go_enter Try.func22, Try.ntmps22
  go_upto_region 8 with fail
  refine wp_world (fun W => Fr [] w W ∧ W.heap[w.heap.size]? = some (.cells #[.int .i64 9, .int .i64 a, .int .i64 b, .int .i64 alu, .int .i64 cc, .int .u64 imm, .int .i64 d] 24 (0, 0))) ⟨(Fr.refl [] w).alloc _, heap_new _ _⟩ ?_
  rintro W ⟨hW, hB⟩
  obtain ⟨x0, x1, x2, x3, x4, x5, x6, xf⟩ := cells7 hB
  have hlt : w.heap.size < W.heap.size := lt_of_heap hB
  have HB := Lib.hid hB
  clear hB xf
  (first | go_region_held3 (fun w' => w'.cell? ⟨w.heap.size, 0, none⟩ = some (.int .i64 9) ∧ w'.cell? ⟨w.heap.size, 1, none⟩ = some (.int .i64 a) ∧ w'.cell? ⟨w.heap.size, 2, none⟩ = some (.int .i64 b) ∧ w'.cell? ⟨w.heap.size, 3, none⟩ = some (.int .i64 alu) ∧ w'.cell? ⟨w.heap.size, 4, none⟩ = some (.int .i64 cc) ∧ w'.cell? ⟨w.heap.size, 5, none⟩ = some (.int .u64 imm) ∧ w'.cell? ⟨w.heap.size, 6, none⟩ = some (.int .i64 d)) (first | exact cells7' (t := 24) (by (repeat' (with_reducible (first | apply heap_old | apply heap_drew))); exact HB.out) | exact cells7' (t := 24) (by (repeat' (with_reducible (first | apply heap_old | apply heap_drew))); exact hm.fr.heap (by (repeat' (with_reducible (first | apply heap_old | apply heap_drew))); exact HB.out) (by simp)) | exact cells7' (t := 24) (grown_heap hgr (by (repeat' (with_reducible (first | apply heap_old | apply heap_drew))); exact hm.fr.heap (by (repeat' (with_reducible (first | apply heap_old | apply heap_drew))); exact HB.out) (by simp)) (by simp [Value.ownBlock]; omega)) | exact cells7' (t := 24) (grown_heap hgr (by (repeat' (with_reducible (first | apply heap_old | apply heap_drew))); exact hm.fr.heap (by (repeat' (with_reducible (first | apply heap_old | apply heap_drew))); exact HB.out) (by simp)) (by have h9 := Nat.lt_of_lt_of_le hlt hm.fr.size; simp [Value.ownBlock]; (try simp at h9); omega))) (first | (go_at_call 19; refine (RX _).mono ?_; rintro e w' ⟨rfl, rfl⟩) | (go_at_call 41; refine (MD _).mono ?_; rintro e w' ⟨rfl, rfl⟩) | (go_at_call 42; refine (disp_any _ _ _ _ _ _ _ _).mono ?_; rintro e W2 ⟨g, cp, rfl, hm⟩) | (refine step_append_bytes (by rfl) _ _ (by rfl) w.heap.size _ [c0, 139, c2] (by rfl) (OwnB.lit _ (by first | exact hm.fr.heap (heap_at (by simp) rfl) (by simp) | exact heap_at (by simp) rfl) (by simp [byteVal]) (by first | exact Nat.le_of_lt hlt | exact Nat.le_of_lt (Nat.lt_of_lt_of_le hlt hm.fr.size)) (by simp [maxLen])) g 4 cp (leB d 4) (by rfl) (by rw [leB_length]) (by first | exact hm.cells | exact fun i h => ((Fr.refl [] _).alloc _).cell (hm.cells i h) (by simp)) (by simp [leB_length]) (by simp [leB_length]) (Nat.le_of_lt (lt_of_heap (by (repeat' (with_reducible (first | apply heap_old | apply heap_drew))); exact hm.fr.heap (by (repeat' (with_reducible (first | apply heap_old | apply heap_drew))); exact HB.out) (by simp)))) ?_; intro g' cap' W3 hown hgr)) | fail)
  all_goals (go_wp2_with fail; go_ret; exact ⟨_, rfl, hown, Fr.grown (by (repeat' (with_reducible (first | apply Fr.alloc | apply Fr.drew | exact hW | refine Fr.then0 ?_ hm.fr)))) hgr (by have h9 := hW.size; have h8 := hm.fr.size; intro k hk; simp [Value.ownBlock] at hk; right; (try simp at h8); omega)⟩)
set_option maxRecDepth 100000 in
set_option maxHeartbeats 4000000 in
theorem code_10 (a b alu cc imm d : Int) (ha0 : 0 ≤ a) (ha1 : a ≤ 15) (hb0 : 0 ≤ b) (hb1 : b ≤ 15) (w : World) :
    Calls Try.prog 22 #[.agg #[.int .i64 10, .int .i64 a, .int .i64 b, .int .i64 alu, .int .i64 cc, .int .u64 imm, .int .i64 d]] w fun e w' => ∃ sv, e = .returned sv ∧ OwnB w.heap.size w' sv ([ub (rexI a b), 137, ub (128 + 8 * (a % 8) + b % 8)] ++ leB d 4) ∧ Fr [] w w' := by
  obtain ⟨c0, hc0⟩ : ∃ c0, ub (rexI a b) = c0 := ⟨_, rfl⟩
  obtain ⟨c2, hc2⟩ : ∃ c2, ub (128 + 8 * (a % 8) + b % 8) = c2 := ⟨_, rfl⟩
  have RX : ∀ W, Calls Try.prog 19 #[.int .i64 a, .int .i64 b] W fun e w' => e = .returned (.int .u8 (c0.toNat : Int)) ∧ W = w' := fun W => by
    rw [← hc0, ub_id (rexI_bd a b).1 (rexI_bd a b).2]; exact rex_any a b W
  have MD : ∀ W, Calls Try.prog 41 #[.int .i64 128, .int .i64 a, .int .i64 b] W fun e w' => e = .returned (.int .u8 (c2.toNat : Int)) ∧ W = w' := fun W => by
    rw [← hc2, ub_id (by omega) (by omega)]; exact mod_any 128 a b (by omega) (by omega) (by omega) (by omega) (by omega) W
  rw [hc0, hc2]
  clear hc0 hc2 ha0 ha1 hb0 hb1
  go_enter Try.func22, Try.ntmps22
  go_upto_region 10 with fail
  refine wp_world (fun W => Fr [] w W ∧ W.heap[w.heap.size]? = some (.cells #[.int .i64 10, .int .i64 a, .int .i64 b, .int .i64 alu, .int .i64 cc, .int .u64 imm, .int .i64 d] 24 (0, 0))) ⟨(Fr.refl [] w).alloc _, heap_new _ _⟩ ?_
  rintro W ⟨hW, hB⟩
  obtain ⟨x0, x1, x2, x3, x4, x5, x6, xf⟩ := cells7 hB
  have hlt : w.heap.size < W.heap.size := lt_of_heap hB
  have HB := Lib.hid hB
  clear hB xf
  (first | go_region_held3 (fun w' => w'.cell? ⟨w.heap.size, 0, none⟩ = some (.int .i64 10) ∧ w'.cell? ⟨w.heap.size, 1, none⟩ = some (.int .i64 a) ∧ w'.cell? ⟨w.heap.size, 2, none⟩ = some (.int .i64 b) ∧ w'.cell? ⟨w.heap.size, 3, none⟩ = some (.int .i64 alu) ∧ w'.cell? ⟨w.heap.size, 4, none⟩ = some (.int .i64 cc) ∧ w'.cell? ⟨w.heap.size, 5, none⟩ = some (.int .u64 imm) ∧ w'.cell? ⟨w.heap.size, 6, none⟩ = some (.int .i64 d)) (first | exact cells7' (t := 24) (by (repeat' (with_reducible (first | apply heap_old | apply heap_drew))); exact HB.out) | exact cells7' (t := 24) (by (repeat' (with_reducible (first | apply heap_old | apply heap_drew))); exact hm.fr.heap (by (repeat' (with_reducible (first | apply heap_old | apply heap_drew))); exact HB.out) (by simp)) | exact cells7' (t := 24) (grown_heap hgr (by (repeat' (with_reducible (first | apply heap_old | apply heap_drew))); exact hm.fr.heap (by (repeat' (with_reducible (first | apply heap_old | apply heap_drew))); exact HB.out) (by simp)) (by simp [Value.ownBlock]; omega)) | exact cells7' (t := 24) (grown_heap hgr (by (repeat' (with_reducible (first | apply heap_old | apply heap_drew))); exact hm.fr.heap (by (repeat' (with_reducible (first | apply heap_old | apply heap_drew))); exact HB.out) (by simp)) (by have h9 := Nat.lt_of_lt_of_le hlt hm.fr.size; simp [Value.ownBlock]; (try simp at h9); omega))) (first | (go_at_call 19; refine (RX _).mono ?_; rintro e w' ⟨rfl, rfl⟩) | (go_at_call 41; refine (MD _).mono ?_; rintro e w' ⟨rfl, rfl⟩) | (go_at_call 42; refine (disp_any _ _ _ _ _ _ _ _).mono ?_; rintro e W2 ⟨g, cp, rfl, hm⟩) | (refine step_append_bytes (by rfl) _ _ (by rfl) w.heap.size _ [c0, 137, c2] (by rfl) (OwnB.lit _ (by first | exact hm.fr.heap (heap_at (by simp) rfl) (by simp) | exact heap_at (by simp) rfl) (by simp [byteVal]) (by first | exact Nat.le_of_lt hlt | exact Nat.le_of_lt (Nat.lt_of_lt_of_le hlt hm.fr.size)) (by simp [maxLen])) g 4 cp (leB d 4) (by rfl) (by rw [leB_length]) (by first | exact hm.cells | exact fun i h => ((Fr.refl [] _).alloc _).cell (hm.cells i h) (by simp)) (by simp [leB_length]) (by simp [leB_length]) (Nat.le_of_lt (lt_of_heap (by (repeat' (with_reducible (first | apply heap_old | apply heap_drew))); exact hm.fr.heap (by (repeat' (with_reducible (first | apply heap_old | apply heap_drew))); exact HB.out) (by simp)))) ?_; intro g' cap' W3 hown hgr)) | fail)
  all_goals (go_wp2_with fail; go_ret; exact ⟨_, rfl, hown, Fr.grown (by (repeat' (with_reducible (first | apply Fr.alloc | apply Fr.drew | exact hW | refine Fr.then0 ?_ hm.fr)))) hgr (by have h9 := hW.size; have h8 := hm.fr.size; intro k hk; simp [Value.ownBlock] at hk; right; (try simp at h8); omega)⟩)
set_option maxRecDepth 100000 in
set_option maxHeartbeats 4000000 in
theorem code_11 (a b alu cc imm d : Int) (ha0 : 0 ≤ a) (ha1 : a ≤ 15) (w : World) :
    Calls Try.prog 22 #[.agg #[.int .i64 11, .int .i64 a, .int .i64 b, .int .i64 alu, .int .i64 cc, .int .u64 imm, .int .i64 d]] w fun e w' => ∃ sv, e = .returned sv ∧ OwnB w.heap.size w' sv ([ub (rexI a 0), 139, ub (0 + 8 * (a % 8) + 5 % 8)] ++ leB d 4) ∧ Fr [] w w' := by
  obtain ⟨c0, hc0⟩ : ∃ c0, ub (rexI a 0) = c0 := ⟨_, rfl⟩
  obtain ⟨c2, hc2⟩ : ∃ c2, ub (0 + 8 * (a % 8) + 5 % 8) = c2 := ⟨_, rfl⟩
  have RX : ∀ W, Calls Try.prog 19 #[.int .i64 a, .int .i64 0] W fun e w' => e = .returned (.int .u8 (c0.toNat : Int)) ∧ W = w' := fun W => by
    rw [← hc0, ub_id (rexI_bd a 0).1 (rexI_bd a 0).2]; exact rex_any a 0 W
  have MD : ∀ W, Calls Try.prog 41 #[.int .i64 0, .int .i64 a, .int .i64 5] W fun e w' => e = .returned (.int .u8 (c2.toNat : Int)) ∧ W = w' := fun W => by
    rw [← hc2, ub_id (by omega) (by omega)]; exact mod_any 0 a 5 (by omega) (by omega) (by omega) (by omega) (by omega) W
  rw [hc0, hc2]
  clear hc0 hc2 ha0 ha1
  go_enter Try.func22, Try.ntmps22
  go_upto_region 12 with fail
  refine wp_world (fun W => Fr [] w W ∧ W.heap[w.heap.size]? = some (.cells #[.int .i64 11, .int .i64 a, .int .i64 b, .int .i64 alu, .int .i64 cc, .int .u64 imm, .int .i64 d] 24 (0, 0))) ⟨(Fr.refl [] w).alloc _, heap_new _ _⟩ ?_
  rintro W ⟨hW, hB⟩
  obtain ⟨x0, x1, x2, x3, x4, x5, x6, xf⟩ := cells7 hB
  have hlt : w.heap.size < W.heap.size := lt_of_heap hB
  have HB := Lib.hid hB
  clear hB xf
  (first | go_region_held3 (fun w' => w'.cell? ⟨w.heap.size, 0, none⟩ = some (.int .i64 11) ∧ w'.cell? ⟨w.heap.size, 1, none⟩ = some (.int .i64 a) ∧ w'.cell? ⟨w.heap.size, 2, none⟩ = some (.int .i64 b) ∧ w'.cell? ⟨w.heap.size, 3, none⟩ = some (.int .i64 alu) ∧ w'.cell? ⟨w.heap.size, 4, none⟩ = some (.int .i64 cc) ∧ w'.cell? ⟨w.heap.size, 5, none⟩ = some (.int .u64 imm) ∧ w'.cell? ⟨w.heap.size, 6, none⟩ = some (.int .i64 d)) (first | exact cells7' (t := 24) (by (repeat' (with_reducible (first | apply heap_old | apply heap_drew))); exact HB.out) | exact cells7' (t := 24) (by (repeat' (with_reducible (first | apply heap_old | apply heap_drew))); exact hm.fr.heap (by (repeat' (with_reducible (first | apply heap_old | apply heap_drew))); exact HB.out) (by simp)) | exact cells7' (t := 24) (grown_heap hgr (by (repeat' (with_reducible (first | apply heap_old | apply heap_drew))); exact hm.fr.heap (by (repeat' (with_reducible (first | apply heap_old | apply heap_drew))); exact HB.out) (by simp)) (by simp [Value.ownBlock]; omega)) | exact cells7' (t := 24) (grown_heap hgr (by (repeat' (with_reducible (first | apply heap_old | apply heap_drew))); exact hm.fr.heap (by (repeat' (with_reducible (first | apply heap_old | apply heap_drew))); exact HB.out) (by simp)) (by have h9 := Nat.lt_of_lt_of_le hlt hm.fr.size; simp [Value.ownBlock]; (try simp at h9); omega))) (first | (go_at_call 19; refine (RX _).mono ?_; rintro e w' ⟨rfl, rfl⟩) | (go_at_call 41; refine (MD _).mono ?_; rintro e w' ⟨rfl, rfl⟩) | (go_at_call 42; refine (disp_any _ _ _ _ _ _ _ _).mono ?_; rintro e W2 ⟨g, cp, rfl, hm⟩) | (refine step_append_bytes (by rfl) _ _ (by rfl) w.heap.size _ [c0, 139, c2] (by rfl) (OwnB.lit _ (by first | exact hm.fr.heap (heap_at (by simp) rfl) (by simp) | exact heap_at (by simp) rfl) (by simp [byteVal]) (by first | exact Nat.le_of_lt hlt | exact Nat.le_of_lt (Nat.lt_of_lt_of_le hlt hm.fr.size)) (by simp [maxLen])) g 4 cp (leB d 4) (by rfl) (by rw [leB_length]) (by first | exact hm.cells | exact fun i h => ((Fr.refl [] _).alloc _).cell (hm.cells i h) (by simp)) (by simp [leB_length]) (by simp [leB_length]) (Nat.le_of_lt (lt_of_heap (by (repeat' (with_reducible (first | apply heap_old | apply heap_drew))); exact hm.fr.heap (by (repeat' (with_reducible (first | apply heap_old | apply heap_drew))); exact HB.out) (by simp)))) ?_; intro g' cap' W3 hown hgr)) | fail)
  all_goals (go_wp2_with fail; go_ret; exact ⟨_, rfl, hown, Fr.grown (by (repeat' (with_reducible (first | apply Fr.alloc | apply Fr.drew | exact hW | refine Fr.then0 ?_ hm.fr)))) hgr (by have h9 := hW.size; have h8 := hm.fr.size; intro k hk; simp [Value.ownBlock] at hk; right; (try simp at h8); omega)⟩)
set_option maxRecDepth 100000 in
set_option maxHeartbeats 4000000 in
theorem code_12 (a b alu cc imm d : Int) (ha0 : 0 ≤ a) (ha1 : a ≤ 15) (w : World) :
    Calls Try.prog 22 #[.agg #[.int .i64 12, .int .i64 a, .int .i64 b, .int .i64 alu, .int .i64 cc, .int .u64 imm, .int .i64 d]] w fun e w' => ∃ sv, e = .returned sv ∧ OwnB w.heap.size w' sv ([ub (rexI a 0), 137, ub (0 + 8 * (a % 8) + 5 % 8)] ++ leB d 4) ∧ Fr [] w w' := by
  obtain ⟨c0, hc0⟩ : ∃ c0, ub (rexI a 0) = c0 := ⟨_, rfl⟩
  obtain ⟨c2, hc2⟩ : ∃ c2, ub (0 + 8 * (a % 8) + 5 % 8) = c2 := ⟨_, rfl⟩
  have RX : ∀ W, Calls Try.prog 19 #[.int .i64 a, .int .i64 0] W fun e w' => e = .returned (.int .u8 (c0.toNat : Int)) ∧ W = w' := fun W => by
    rw [← hc0, ub_id (rexI_bd a 0).1 (rexI_bd a 0).2]; exact rex_any a 0 W
  have MD : ∀ W, Calls Try.prog 41 #[.int .i64 0, .int .i64 a, .int .i64 5] W fun e w' => e = .returned (.int .u8 (c2.toNat : Int)) ∧ W = w' := fun W => by
    rw [← hc2, ub_id (by omega) (by omega)]; exact mod_any 0 a 5 (by omega) (by omega) (by omega) (by omega) (by omega) W
  rw [hc0, hc2]
  clear hc0 hc2 ha0 ha1
  go_enter Try.func22, Try.ntmps22
  go_upto_region 14 with fail
  refine wp_world (fun W => Fr [] w W ∧ W.heap[w.heap.size]? = some (.cells #[.int .i64 12, .int .i64 a, .int .i64 b, .int .i64 alu, .int .i64 cc, .int .u64 imm, .int .i64 d] 24 (0, 0))) ⟨(Fr.refl [] w).alloc _, heap_new _ _⟩ ?_
  rintro W ⟨hW, hB⟩
  obtain ⟨x0, x1, x2, x3, x4, x5, x6, xf⟩ := cells7 hB
  have hlt : w.heap.size < W.heap.size := lt_of_heap hB
  have HB := Lib.hid hB
  clear hB xf
  (first | go_region_held3 (fun w' => w'.cell? ⟨w.heap.size, 0, none⟩ = some (.int .i64 12) ∧ w'.cell? ⟨w.heap.size, 1, none⟩ = some (.int .i64 a) ∧ w'.cell? ⟨w.heap.size, 2, none⟩ = some (.int .i64 b) ∧ w'.cell? ⟨w.heap.size, 3, none⟩ = some (.int .i64 alu) ∧ w'.cell? ⟨w.heap.size, 4, none⟩ = some (.int .i64 cc) ∧ w'.cell? ⟨w.heap.size, 5, none⟩ = some (.int .u64 imm) ∧ w'.cell? ⟨w.heap.size, 6, none⟩ = some (.int .i64 d)) (first | exact cells7' (t := 24) (by (repeat' (with_reducible (first | apply heap_old | apply heap_drew))); exact HB.out) | exact cells7' (t := 24) (by (repeat' (with_reducible (first | apply heap_old | apply heap_drew))); exact hm.fr.heap (by (repeat' (with_reducible (first | apply heap_old | apply heap_drew))); exact HB.out) (by simp)) | exact cells7' (t := 24) (grown_heap hgr (by (repeat' (with_reducible (first | apply heap_old | apply heap_drew))); exact hm.fr.heap (by (repeat' (with_reducible (first | apply heap_old | apply heap_drew))); exact HB.out) (by simp)) (by simp [Value.ownBlock]; omega)) | exact cells7' (t := 24) (grown_heap hgr (by (repeat' (with_reducible (first | apply heap_old | apply heap_drew))); exact hm.fr.heap (by (repeat' (with_reducible (first | apply heap_old | apply heap_drew))); exact HB.out) (by simp)) (by have h9 := Nat.lt_of_lt_of_le hlt hm.fr.size; simp [Value.ownBlock]; (try simp at h9); omega))) (first | (go_at_call 19; refine (RX _).mono ?_; rintro e w' ⟨rfl, rfl⟩) | (go_at_call 41; refine (MD _).mono ?_; rintro e w' ⟨rfl, rfl⟩) | (go_at_call 42; refine (disp_any _ _ _ _ _ _ _ _).mono ?_; rintro e W2 ⟨g, cp, rfl, hm⟩) | (refine step_append_bytes (by rfl) _ _ (by rfl) w.heap.size _ [c0, 137, c2] (by rfl) (OwnB.lit _ (by first | exact hm.fr.heap (heap_at (by simp) rfl) (by simp) | exact heap_at (by simp) rfl) (by simp [byteVal]) (by first | exact Nat.le_of_lt hlt | exact Nat.le_of_lt (Nat.lt_of_lt_of_le hlt hm.fr.size)) (by simp [maxLen])) g 4 cp (leB d 4) (by rfl) (by rw [leB_length]) (by first | exact hm.cells | exact fun i h => ((Fr.refl [] _).alloc _).cell (hm.cells i h) (by simp)) (by simp [leB_length]) (by simp [leB_length]) (Nat.le_of_lt (lt_of_heap (by (repeat' (with_reducible (first | apply heap_old | apply heap_drew))); exact hm.fr.heap (by (repeat' (with_reducible (first | apply heap_old | apply heap_drew))); exact HB.out) (by simp)))) ?_; intro g' cap' W3 hown hgr)) | fail)
  all_goals (go_wp2_with fail; go_ret; exact ⟨_, rfl, hown, Fr.grown (by (repeat' (with_reducible (first | apply Fr.alloc | apply Fr.drew | exact hW | refine Fr.then0 ?_ hm.fr)))) hgr (by have h9 := hW.size; have h8 := hm.fr.size; intro k hk; simp [Value.ownBlock] at hk; right; (try simp at h8); omega)⟩)
set_option maxRecDepth 100000 in
set_option maxHeartbeats 4000000 in
theorem code_13 (a b alu cc imm d : Int) (ha0 : 0 ≤ a) (ha1 : a ≤ 15) (w : World) :
    Calls Try.prog 22 #[.agg #[.int .i64 13, .int .i64 a, .int .i64 b, .int .i64 alu, .int .i64 cc, .int .u64 imm, .int .i64 d]] w fun e w' => ∃ sv, e = .returned sv ∧ OwnB w.heap.size w' sv ([ub (rexI a 0), 141, ub (0 + 8 * (a % 8) + 5 % 8)] ++ leB d 4) ∧ Fr [] w w' := by
  obtain ⟨c0, hc0⟩ : ∃ c0, ub (rexI a 0) = c0 := ⟨_, rfl⟩
  obtain ⟨c2, hc2⟩ : ∃ c2, ub (0 + 8 * (a % 8) + 5 % 8) = c2 := ⟨_, rfl⟩
  have RX : ∀ W, Calls Try.prog 19 #[.int .i64 a, .int .i64 0] W fun e w' => e = .returned (.int .u8 (c0.toNat : Int)) ∧ W = w' := fun W => by
    rw [← hc0, ub_id (rexI_bd a 0).1 (rexI_bd a 0).2]; exact rex_any a 0 W
  have MD : ∀ W, Calls Try.prog 41 #[.int .i64 0, .int .i64 a, .int .i64 5] W fun e w' => e = .returned (.int .u8 (c2.toNat : Int)) ∧ W = w' := fun W => by
    rw [← hc2, ub_id (by omega) (by omega)]; exact mod_any 0 a 5 (by omega) (by omega) (by omega) (by omega) (by omega) W
  rw [hc0, hc2]
  clear hc0 hc2 ha0 ha1
  go_enter Try.func22, Try.ntmps22
  go_upto_region 16 with fail
  refine wp_world (fun W => Fr [] w W ∧ W.heap[w.heap.size]? = some (.cells #[.int .i64 13, .int .i64 a, .int .i64 b, .int .i64 alu, .int .i64 cc, .int .u64 imm, .int .i64 d] 24 (0, 0))) ⟨(Fr.refl [] w).alloc _, heap_new _ _⟩ ?_
  rintro W ⟨hW, hB⟩
  obtain ⟨x0, x1, x2, x3, x4, x5, x6, xf⟩ := cells7 hB
  have hlt : w.heap.size < W.heap.size := lt_of_heap hB
  have HB := Lib.hid hB
  clear hB xf
  (first | go_region_held3 (fun w' => w'.cell? ⟨w.heap.size, 0, none⟩ = some (.int .i64 13) ∧ w'.cell? ⟨w.heap.size, 1, none⟩ = some (.int .i64 a) ∧ w'.cell? ⟨w.heap.size, 2, none⟩ = some (.int .i64 b) ∧ w'.cell? ⟨w.heap.size, 3, none⟩ = some (.int .i64 alu) ∧ w'.cell? ⟨w.heap.size, 4, none⟩ = some (.int .i64 cc) ∧ w'.cell? ⟨w.heap.size, 5, none⟩ = some (.int .u64 imm) ∧ w'.cell? ⟨w.heap.size, 6, none⟩ = some (.int .i64 d)) (first | exact cells7' (t := 24) (by (repeat' (with_reducible (first | apply heap_old | apply heap_drew))); exact HB.out) | exact cells7' (t := 24) (by (repeat' (with_reducible (first | apply heap_old | apply heap_drew))); exact hm.fr.heap (by (repeat' (with_reducible (first | apply heap_old | apply heap_drew))); exact HB.out) (by simp)) | exact cells7' (t := 24) (grown_heap hgr (by (repeat' (with_reducible (first | apply heap_old | apply heap_drew))); exact hm.fr.heap (by (repeat' (with_reducible (first | apply heap_old | apply heap_drew))); exact HB.out) (by simp)) (by simp [Value.ownBlock]; omega)) | exact cells7' (t := 24) (grown_heap hgr (by (repeat' (with_reducible (first | apply heap_old | apply heap_drew))); exact hm.fr.heap (by (repeat' (with_reducible (first | apply heap_old | apply heap_drew))); exact HB.out) (by simp)) (by have h9 := Nat.lt_of_lt_of_le hlt hm.fr.size; simp [Value.ownBlock]; (try simp at h9); omega))) (first | (go_at_call 19; refine (RX _).mono ?_; rintro e w' ⟨rfl, rfl⟩) | (go_at_call 41; refine (MD _).mono ?_; rintro e w' ⟨rfl, rfl⟩) | (go_at_call 42; refine (disp_any _ _ _ _ _ _ _ _).mono ?_; rintro e W2 ⟨g, cp, rfl, hm⟩) | (refine step_append_bytes (by rfl) _ _ (by rfl) w.heap.size _ [c0, 141, c2] (by rfl) (OwnB.lit _ (by first | exact hm.fr.heap (heap_at (by simp) rfl) (by simp) | exact heap_at (by simp) rfl) (by simp [byteVal]) (by first | exact Nat.le_of_lt hlt | exact Nat.le_of_lt (Nat.lt_of_lt_of_le hlt hm.fr.size)) (by simp [maxLen])) g 4 cp (leB d 4) (by rfl) (by rw [leB_length]) (by first | exact hm.cells | exact fun i h => ((Fr.refl [] _).alloc _).cell (hm.cells i h) (by simp)) (by simp [leB_length]) (by simp [leB_length]) (Nat.le_of_lt (lt_of_heap (by (repeat' (with_reducible (first | apply heap_old | apply heap_drew))); exact hm.fr.heap (by (repeat' (with_reducible (first | apply heap_old | apply heap_drew))); exact HB.out) (by simp)))) ?_; intro g' cap' W3 hown hgr)) | fail)
  all_goals (go_wp2_with fail; go_ret; exact ⟨_, rfl, hown, Fr.grown (by (repeat' (with_reducible (first | apply Fr.alloc | apply Fr.drew | exact hW | refine Fr.then0 ?_ hm.fr)))) hgr (by have h9 := hW.size; have h8 := hm.fr.size; intro k hk; simp [Value.ownBlock] at hk; right; (try simp at h8); omega)⟩)
set_option maxRecDepth 100000 in
set_option maxHeartbeats 4000000 in
theorem code_8 (a b alu cc imm d : Int) (ha0 : 0 ≤ a) (ha1 : a ≤ 15) (hb0 : 0 ≤ b) (hb1 : b ≤ 15) (w : World) :
    Calls Try.prog 22 #[.agg #[.int .i64 8, .int .i64 a, .int .i64 b, .int .i64 alu, .int .i64 cc, .int .u64 imm, .int .i64 d]] w fun e w' => ∃ sv, e = .returned sv ∧ OwnB w.heap.size w' sv ([ub (rexI a b), 137, ub (192 + 8 * (a % 8) + b % 8)]) ∧ Fr [] w w' := by
  obtain ⟨c0, hc0⟩ : ∃ c0, ub (rexI a b) = c0 := ⟨_, rfl⟩
  obtain ⟨c2, hc2⟩ : ∃ c2, ub (192 + 8 * (a % 8) + b % 8) = c2 := ⟨_, rfl⟩
  have RX : ∀ W, Calls Try.prog 19 #[.int .i64 a, .int .i64 b] W fun e w' => e = .returned (.int .u8 (c0.toNat : Int)) ∧ W = w' := fun W => by
    rw [← hc0, ub_id (rexI_bd a b).1 (rexI_bd a b).2]; exact rex_any a b W
  have MD : ∀ W, Calls Try.prog 41 #[.int .i64 192, .int .i64 a, .int .i64 b] W fun e w' => e = .returned (.int .u8 (c2.toNat : Int)) ∧ W = w' := fun W => by
    rw [← hc2, ub_id (by omega) (by omega)]; exact mod_any 192 a b (by omega) (by omega) (by omega) (by omega) (by omega) W
  rw [hc0, hc2]
  clear hc0 hc2 ha0 ha1 hb0 hb1
  go_enter Try.func22, Try.ntmps22
  go_upto_region 6 with fail
  refine wp_world (fun W => Fr [] w W ∧ W.heap[w.heap.size]? = some (.cells #[.int .i64 8, .int .i64 a, .int .i64 b, .int .i64 alu, .int .i64 cc, .int .u64 imm, .int .i64 d] 24 (0, 0))) ⟨(Fr.refl [] w).alloc _, heap_new _ _⟩ ?_
  rintro W ⟨hW, hB⟩
  obtain ⟨x0, x1, x2, x3, x4, x5, x6, xf⟩ := cells7 hB
  have hlt : w.heap.size < W.heap.size := lt_of_heap hB
  have HB := Lib.hid hB
  clear hB xf
  (first | go_region_held3 (fun w' => w'.cell? ⟨w.heap.size, 0, none⟩ = some (.int .i64 8) ∧ w'.cell? ⟨w.heap.size, 1, none⟩ = some (.int .i64 a) ∧ w'.cell? ⟨w.heap.size, 2, none⟩ = some (.int .i64 b) ∧ w'.cell? ⟨w.heap.size, 3, none⟩ = some (.int .i64 alu) ∧ w'.cell? ⟨w.heap.size, 4, none⟩ = some (.int .i64 cc) ∧ w'.cell? ⟨w.heap.size, 5, none⟩ = some (.int .u64 imm) ∧ w'.cell? ⟨w.heap.size, 6, none⟩ = some (.int .i64 d)) (first | exact cells7' (t := 24) (by (repeat' (with_reducible (first | apply heap_old | apply heap_drew))); exact HB.out)) (first | (go_at_call 19; refine (RX _).mono ?_; rintro e w' ⟨rfl, rfl⟩) | (go_at_call 41; refine (MD _).mono ?_; rintro e w' ⟨rfl, rfl⟩)) | fail)
  all_goals (go_wp2_with fail; go_ret; exact ⟨_, rfl, OwnB.lit [c0, 137, c2] (heap_at (by simp) rfl) (by simp [byteVal]) (by have := hW.size; (try simp); omega) (by simp [maxLen]), (by (repeat' (with_reducible (first | apply Fr.alloc | apply Fr.drew | exact hW))))⟩)
set_option maxRecDepth 100000 in
set_option maxHeartbeats 4000000 in
theorem code_7 (a b alu cc imm d : Int) (k : Nat) (hk : idxL aluAll alu = k) (cd : Int) (hk7 : k < 7) (hcd : aluCodes[k]? = some cd) (hcd0 : 0 ≤ cd) (hcd1 : cd < 256) (ha0 : 0 ≤ a) (ha1 : a ≤ 15) (hb0 : 0 ≤ b) (hb1 : b ≤ 15) (w : World) :
    Calls Try.prog 22 #[.agg #[.int .i64 7, .int .i64 a, .int .i64 b, .int .i64 alu, .int .i64 cc, .int .u64 imm, .int .i64 d]] w fun e w' => ∃ sv, e = .returned sv ∧ OwnB w.heap.size w' sv ([ub (rexI a b), ub cd, ub (192 + 8 * (a % 8) + b % 8)]) ∧ Fr [] w w' := by
  obtain ⟨c1, hc1⟩ : ∃ c1, ub cd = c1 := ⟨_, rfl⟩
  have OF : ∀ W g gc, IntCells W g aluAll → W.cell? ⟨gc, k, none⟩ = some (.int .u8 (c1.toNat : Int)) → Calls Try.prog 21 #[.slice (some ⟨g, 0, none⟩) 7 7, .slice (some ⟨gc, 0, none⟩) 7 7, .int .i64 alu] W fun e w' => e = .returned (.int .u8 (c1.toNat : Int)) ∧ W = w' := fun W g gc h1 h2 =>
    of_any W g gc aluAll (by decide) alu h1 k hk 7 hk7 _ h2
  have HCD : Hid ((aluCodes.map fun x => Value.int .u8 x)[k]? = some (.int .u8 (c1.toNat : Int))) := by rw [← hc1, ub_id hcd0 hcd1]; exact Lib.hid (by simp [hcd])
  rw [hc1]
  clear hc1 hk hcd hcd0 hcd1
  obtain ⟨c0, hc0⟩ : ∃ c0, ub (rexI a b) = c0 := ⟨_, rfl⟩
  obtain ⟨c2, hc2⟩ : ∃ c2, ub (192 + 8 * (a % 8) + b % 8) = c2 := ⟨_, rfl⟩
  have RX : ∀ W, Calls Try.prog 19 #[.int .i64 a, .int .i64 b] W fun e w' => e = .returned (.int .u8 (c0.toNat : Int)) ∧ W = w' := fun W => by
    rw [← hc0, ub_id (rexI_bd a b).1 (rexI_bd a b).2]; exact rex_any a b W
  have MD : ∀ W, Calls Try.prog 41 #[.int .i64 192, .int .i64 a, .int .i64 b] W fun e w' => e = .returned (.int .u8 (c2.toNat : Int)) ∧ W = w' := fun W => by
    rw [← hc2, ub_id (by omega) (by omega)]; exact mod_any 192 a b (by omega) (by omega) (by omega) (by omega) (by omega) W
  rw [hc0, hc2]
  clear hc0 hc2 ha0 ha1 hb0 hb1
  go_enter Try.func22, Try.ntmps22
  go_upto_region 4 with (go_at_call 25; refine (aluOps_any _).mono ?_; rintro e w' ⟨rfl, rfl⟩)
  refine wp_world (fun W => Fr [] w W ∧ W.heap[w.heap.size]? = some (.cells #[.int .i64 7, .int .i64 a, .int .i64 b, .int .i64 alu, .int .i64 cc, .int .u64 imm, .int .i64 d] 24 (0, 0)) ∧ W.heap[w.heap.size + 1]? = some (intRow aluAll) ∧ W.heap[w.heap.size + 1 + 1]? = some (u8Row aluCodes)) ⟨(((Fr.refl [] w).alloc _).alloc _).alloc _, heap_old _ (heap_old _ (heap_new _ _)), heap_old _ (heap_at (by simp) rfl), heap_at (by simp) rfl⟩ ?_
  rintro W ⟨hW, hB, hG, hC⟩
  obtain ⟨x0, x1, x2, x3, x4, x5, x6, xf⟩ := cells7 hB
  have hlt : w.heap.size < W.heap.size := lt_of_heap hB
  have HB := Lib.hid hB
  have HG := Lib.hid hG
  have HC := Lib.hid hC
  clear hB xf hG hC
  (first | go_region_held3 (fun w' => w'.cell? ⟨w.heap.size, 0, none⟩ = some (.int .i64 7) ∧ w'.cell? ⟨w.heap.size, 1, none⟩ = some (.int .i64 a) ∧ w'.cell? ⟨w.heap.size, 2, none⟩ = some (.int .i64 b) ∧ w'.cell? ⟨w.heap.size, 3, none⟩ = some (.int .i64 alu) ∧ w'.cell? ⟨w.heap.size, 4, none⟩ = some (.int .i64 cc) ∧ w'.cell? ⟨w.heap.size, 5, none⟩ = some (.int .u64 imm) ∧ w'.cell? ⟨w.heap.size, 6, none⟩ = some (.int .i64 d)) (first | exact cells7' (t := 24) (by (repeat' (with_reducible (first | apply heap_old | apply heap_drew))); exact HB.out)) (first | (go_at_call 19; refine (RX _).mono ?_; rintro e w' ⟨rfl, rfl⟩) | (go_at_call 41; refine (MD _).mono ?_; rintro e w' ⟨rfl, rfl⟩) | (go_at_call 21; refine (OF _ _ _ (fun i h => cell_of_heap (by (repeat' (with_reducible (first | apply heap_old | apply heap_drew))); exact HG.out) (by simp [h])) (cell_of_heap (by (repeat' (with_reducible (first | apply heap_old | apply heap_drew))); exact HC.out) (by simpa using HCD.out))).mono ?_; rintro e w' ⟨rfl, rfl⟩)) | fail)
  all_goals (go_wp2_with fail; go_ret; exact ⟨_, rfl, OwnB.lit [c0, c1, c2] (heap_at (by simp) rfl) (by simp [byteVal]) (by have := hW.size; (try simp); omega) (by simp [maxLen]), (by (repeat' (with_reducible (first | apply Fr.alloc | apply Fr.drew | exact hW))))⟩)
set_option maxRecDepth 100000 in
set_option maxHeartbeats 4000000 in
theorem code_17 (a b alu cc imm d : Int) (w : World) :
    Calls Try.prog 22 #[.agg #[.int .i64 17, .int .i64 a, .int .i64 b, .int .i64 alu, .int .i64 cc, .int .u64 imm, .int .i64 d]] w fun e w' => ∃ sv, e = .returned sv ∧ OwnB w.heap.size w' sv ([232] ++ leB d 4) ∧ Fr [] w w' := by
  go_enter Try.func22, Try.ntmps22
  go_upto_region 18 with fail
  refine wp_world (fun W => Fr [] w W ∧ W.heap[w.heap.size]? = some (.cells #[.int .i64 17, .int .i64 a, .int .i64 b, .int .i64 alu, .int .i64 cc, .int .u64 imm, .int .i64 d] 24 (0, 0))) ⟨(Fr.refl [] w).alloc _, heap_new _ _⟩ ?_
  rintro W ⟨hW, hB⟩
  obtain ⟨x0, x1, x2, x3, x4, x5, x6, xf⟩ := cells7 hB
  have hlt : w.heap.size < W.heap.size := lt_of_heap hB
  have HB := Lib.hid hB
  clear hB xf
  go_wp2_with (first | (go_at_call 42; refine (disp_any _ _ _ _ _ _ _ _).mono ?_; rintro e W2 ⟨g, cp, rfl, hm⟩) | (at_builtin; (refine wpList_append_bytes (by rfl) _ _ (by rfl) w.heap.size _ [232] (by rfl) (OwnB.lit _ (by first | exact hm.fr.heap (heap_at (by simp) rfl) (by simp) | exact heap_at (by simp) rfl) (by simp [byteVal]) (by first | exact Nat.le_of_lt hlt | exact Nat.le_of_lt (Nat.lt_of_lt_of_le hlt hm.fr.size)) (by simp [maxLen])) g 4 cp (leB d 4) (by rfl) (by rw [leB_length]) (by first | exact hm.cells | exact fun i h => ((Fr.refl [] _).alloc _).cell (hm.cells i h) (by simp)) (by simp [leB_length]) (Nat.le_of_lt (lt_of_heap (by (repeat' (with_reducible (first | apply heap_old | apply heap_drew))); exact hm.fr.heap (by (repeat' (with_reducible (first | apply heap_old | apply heap_drew))); exact HB.out) (by simp)))) ?_; intro v' W3 hown hgr)))
  go_ret
  exact ⟨_, rfl, hown, Fr.grown (by (repeat' (with_reducible (first | apply Fr.alloc | apply Fr.drew | exact hW | refine Fr.then0 ?_ hm.fr)))) hgr (by have h9 := hW.size; have h8 := hm.fr.size; intro k hk; simp [Value.ownBlock] at hk; right; (try simp at h8); omega)⟩
set_option maxRecDepth 100000 in
set_option maxHeartbeats 4000000 in
theorem code_18 (a b alu cc imm d : Int) (w : World) :
    Calls Try.prog 22 #[.agg #[.int .i64 18, .int .i64 a, .int .i64 b, .int .i64 alu, .int .i64 cc, .int .u64 imm, .int .i64 d]] w fun e w' => ∃ sv, e = .returned sv ∧ OwnB w.heap.size w' sv ([233] ++ leB d 4) ∧ Fr [] w w' := by
  go_enter Try.func22, Try.ntmps22
  go_upto_region 20 with fail
  refine wp_world (fun W => Fr [] w W ∧ W.heap[w.heap.size]? = some (.cells #[.int .i64 18, .int .i64 a, .int .i64 b, .int .i64 alu, .int .i64 cc, .int .u64 imm, .int .i64 d] 24 (0, 0))) ⟨(Fr.refl [] w).alloc _, heap_new _ _⟩ ?_
  rintro W ⟨hW, hB⟩
  obtain ⟨x0, x1, x2, x3, x4, x5, x6, xf⟩ := cells7 hB
  have hlt : w.heap.size < W.heap.size := lt_of_heap hB
  have HB := Lib.hid hB
  clear hB xf
  go_wp2_with (first | (go_at_call 42; refine (disp_any _ _ _ _ _ _ _ _).mono ?_; rintro e W2 ⟨g, cp, rfl, hm⟩) | (at_builtin; (refine wpList_append_bytes (by rfl) _ _ (by rfl) w.heap.size _ [233] (by rfl) (OwnB.lit _ (by first | exact hm.fr.heap (heap_at (by simp) rfl) (by simp) | exact heap_at (by simp) rfl) (by simp [byteVal]) (by first | exact Nat.le_of_lt hlt | exact Nat.le_of_lt (Nat.lt_of_lt_of_le hlt hm.fr.size)) (by simp [maxLen])) g 4 cp (leB d 4) (by rfl) (by rw [leB_length]) (by first | exact hm.cells | exact fun i h => ((Fr.refl [] _).alloc _).cell (hm.cells i h) (by simp)) (by simp [leB_length]) (Nat.le_of_lt (lt_of_heap (by (repeat' (with_reducible (first | apply heap_old | apply heap_drew))); exact hm.fr.heap (by (repeat' (with_reducible (first | apply heap_old | apply heap_drew))); exact HB.out) (by simp)))) ?_; intro v' W3 hown hgr)))
  go_ret
  exact ⟨_, rfl, hown, Fr.grown (by (repeat' (with_reducible (first | apply Fr.alloc | apply Fr.drew | exact hW | refine Fr.then0 ?_ hm.fr)))) hgr (by have h9 := hW.size; have h8 := hm.fr.size; intro k hk; simp [Value.ownBlock] at hk; right; (try simp at h8); omega)⟩
set_option maxRecDepth 100000 in
set_option maxHeartbeats 4000000 in
theorem code_21 (a b alu cc imm d : Int) (w : World) :
    Calls Try.prog 22 #[.agg #[.int .i64 21, .int .i64 a, .int .i64 b, .int .i64 alu, .int .i64 cc, .int .u64 imm, .int .i64 d]] w fun e w' => ∃ sv, e = .returned sv ∧ OwnB w.heap.size w' sv ([255, 21] ++ leB d 4) ∧ Fr [] w w' := by
  go_enter Try.func22, Try.ntmps22
  go_upto_region 22 with fail
  refine wp_world (fun W => Fr [] w W ∧ W.heap[w.heap.size]? = some (.cells #[.int .i64 21, .int .i64 a, .int .i64 b, .int .i64 alu, .int .i64 cc, .int .u64 imm, .int .i64 d] 24 (0, 0))) ⟨(Fr.refl [] w).alloc _, heap_new _ _⟩ ?_
  rintro W ⟨hW, hB⟩
  obtain ⟨x0, x1, x2, x3, x4, x5, x6, xf⟩ := cells7 hB
  have hlt : w.heap.size < W.heap.size := lt_of_heap hB
  have HB := Lib.hid hB
  clear hB xf
  go_wp2_with (first | (go_at_call 42; refine (disp_any _ _ _ _ _ _ _ _).mono ?_; rintro e W2 ⟨g, cp, rfl, hm⟩) | (at_builtin; (refine wpList_append_bytes (by rfl) _ _ (by rfl) w.heap.size _ [255, 21] (by rfl) (OwnB.lit _ (by first | exact hm.fr.heap (heap_at (by simp) rfl) (by simp) | exact heap_at (by simp) rfl) (by simp [byteVal]) (by first | exact Nat.le_of_lt hlt | exact Nat.le_of_lt (Nat.lt_of_lt_of_le hlt hm.fr.size)) (by simp [maxLen])) g 4 cp (leB d 4) (by rfl) (by rw [leB_length]) (by first | exact hm.cells | exact fun i h => ((Fr.refl [] _).alloc _).cell (hm.cells i h) (by simp)) (by simp [leB_length]) (Nat.le_of_lt (lt_of_heap (by (repeat' (with_reducible (first | apply heap_old | apply heap_drew))); exact hm.fr.heap (by (repeat' (with_reducible (first | apply heap_old | apply heap_drew))); exact HB.out) (by simp)))) ?_; intro v' W3 hown hgr)))
  go_ret
  exact ⟨_, rfl, hown, Fr.grown (by (repeat' (with_reducible (first | apply Fr.alloc | apply Fr.drew | exact hW | refine Fr.then0 ?_ hm.fr)))) hgr (by have h9 := hW.size; have h8 := hm.fr.size; intro k hk; simp [Value.ownBlock] at hk; right; (try simp at h8); omega)⟩
set_option maxRecDepth 100000 in
set_option maxHeartbeats 4000000 in
theorem code_22 (a b alu cc imm d : Int) (w : World) :
    Calls Try.prog 22 #[.agg #[.int .i64 22, .int .i64 a, .int .i64 b, .int .i64 alu, .int .i64 cc, .int .u64 imm, .int .i64 d]] w fun e w' => ∃ sv, e = .returned sv ∧ OwnB w.heap.size w' sv ([255, 37] ++ leB d 4) ∧ Fr [] w w' := by
  go_enter Try.func22, Try.ntmps22
  go_upto_region 23 with fail
  refine wp_world (fun W => Fr [] w W ∧ W.heap[w.heap.size]? = some (.cells #[.int .i64 22, .int .i64 a, .int .i64 b, .int .i64 alu, .int .i64 cc, .int .u64 imm, .int .i64 d] 24 (0, 0))) ⟨(Fr.refl [] w).alloc _, heap_new _ _⟩ ?_
  rintro W ⟨hW, hB⟩
  obtain ⟨x0, x1, x2, x3, x4, x5, x6, xf⟩ := cells7 hB
  have hlt : w.heap.size < W.heap.size := lt_of_heap hB
  have HB := Lib.hid hB
  clear hB xf
  go_wp2_with (first | (go_at_call 42; refine (disp_any _ _ _ _ _ _ _ _).mono ?_; rintro e W2 ⟨g, cp, rfl, hm⟩) | (at_builtin; (refine wpList_append_bytes (by rfl) _ _ (by rfl) w.heap.size _ [255, 37] (by rfl) (OwnB.lit _ (by first | exact hm.fr.heap (heap_at (by simp) rfl) (by simp) | exact heap_at (by simp) rfl) (by simp [byteVal]) (by first | exact Nat.le_of_lt hlt | exact Nat.le_of_lt (Nat.lt_of_lt_of_le hlt hm.fr.size)) (by simp [maxLen])) g 4 cp (leB d 4) (by rfl) (by rw [leB_length]) (by first | exact hm.cells | exact fun i h => ((Fr.refl [] _).alloc _).cell (hm.cells i h) (by simp)) (by simp [leB_length]) (Nat.le_of_lt (lt_of_heap (by (repeat' (with_reducible (first | apply heap_old | apply heap_drew))); exact hm.fr.heap (by (repeat' (with_reducible (first | apply heap_old | apply heap_drew))); exact HB.out) (by simp)))) ?_; intro v' W3 hown hgr)))
  go_ret
  exact ⟨_, rfl, hown, Fr.grown (by (repeat' (with_reducible (first | apply Fr.alloc | apply Fr.drew | exact hW | refine Fr.then0 ?_ hm.fr)))) hgr (by have h9 := hW.size; have h8 := hm.fr.size; intro k hk; simp [Value.ownBlock] at hk; right; (try simp at h8); omega)⟩
end Go.Proofs.Ytegnmnhdpnmnpaa
