/- dec.Encode, walked op by op. -/
import Derived.Deep.RegionHeld3
import Derived.Deep.DeepCutAuto
import Derived.Deep.Light
import Derived.Test.YtegnmnhdpnmnpaaCode
import Derived.Test.YtegnmnhdpnmnpaaOk3
namespace Go.Proofs.Ytegnmnhdpnmnpaa
set_option linter.unusedVariables false
set_option linter.unusedSimpArgs false
open Go.RowKit

set_option maxRecDepth 100000 in
set_option maxHeartbeats 4000000 in
theorem enc_1 (a b alu cc imm d : Int) (hok : okB ⟨1, a, b, alu, cc, imm, d⟩ = true) (ha0 : 0 ≤ a) (ha1 : a ≤ 15) (w : World) :
    Calls Try.prog 10 #[.agg #[.int .i64 1, .int .i64 a, .int .i64 b, .int .i64 alu, .int .i64 cc, .int .u64 imm, .int .i64 d]] w fun e w' => ∃ sv, e = .returned (.tuple #[sv, .bool true]) ∧ OwnB w.heap.size w' sv ([144]) ∧ Fr [] w w' := by
  have OKC : ∀ W, Calls Try.prog 13 #[.agg #[.int .i64 1, .int .i64 a, .int .i64 b, .int .i64 alu, .int .i64 cc, .int .u64 imm, .int .i64 d]] W fun e w' => e = .returned (.bool true) ∧ Fr [] W w' := fun W => by
    have := ok_any ⟨1, a, b, alu, cc, imm, d⟩ W
    rw [hok] at this
    exact this
  clear hok
  have ea := and7 a ha0 ha1
  obtain ⟨p, hp⟩ : ∃ p, a % 8 = p := ⟨_, rfl⟩
  rw [hp] at ea
  have p0 : 0 ≤ p := by omega
  have p1 : p ≤ 7 := by omega
  clear hp ha0 ha1
  go_enter Try.func10, Try.ntmps10
  go_upto_region 4 with (first | (go_at_call 13; refine (OKC _).mono ?_; rintro e W1 ⟨rfl, hf1⟩; obtain ⟨x0, x1, x2, x3, x4, x5, x6, xf⟩ := cells7 (hf1.heap (heap_new _ _) (by simp))) | (go_at_call 17; refine (group_any _ _).mono ?_; rintro e w' ⟨rfl, rfl⟩))
  refine wp_world (fun W => Fr [] w W ∧ W.heap[w.heap.size]? = some (.cells #[.int .i64 1, .int .i64 a, .int .i64 b, .int .i64 alu, .int .i64 cc, .int .u64 imm, .int .i64 d] 24 (0, 0)) ∧ W.heap[W1.heap.size]? = some (intRow (groupOps 1)) ∧ W.heap[W1.heap.size + 1]? = some (u8Row (groupCodes 1)))
    ⟨((((Fr.refl [] w).alloc _).then0 hf1).alloc _).alloc _, heap_old _ (heap_old _ (hf1.heap (heap_new _ _) (by simp))), heap_old _ (heap_new _ _), heap_at (by simp) rfl⟩ ?_
  clear x0 x1 x2 x3 x4 x5 x6 xf
  rintro W ⟨hW, hB, hG, hC⟩
  obtain ⟨x0, x1, x2, x3, x4, x5, x6, xf⟩ := cells7 hB
  have hlt : w.heap.size < W.heap.size := lt_of_heap hB
  have HB := Lib.hid hB
  have HG := Lib.hid hG
  have HC := Lib.hid hC
  clear hB hG hC xf hf1 OKC
  go_wp2_with fail
  go_ret2; exact ⟨_, rfl, OwnB.lit [144] (heap_at (by simp) rfl) (by simp [byteVal]) (by have := hW.size; (try simp); omega) (by simp [maxLen]), (by (repeat' (with_reducible (first | apply Fr.alloc | apply Fr.drew | exact hW))))⟩
set_option maxRecDepth 100000 in
set_option maxHeartbeats 4000000 in
theorem enc_2 (a b alu cc imm d : Int) (hok : okB ⟨2, a, b, alu, cc, imm, d⟩ = true) (ha0 : 0 ≤ a) (ha1 : a ≤ 15) (w : World) :
    Calls Try.prog 10 #[.agg #[.int .i64 2, .int .i64 a, .int .i64 b, .int .i64 alu, .int .i64 cc, .int .u64 imm, .int .i64 d]] w fun e w' => ∃ sv, e = .returned (.tuple #[sv, .bool true]) ∧ OwnB w.heap.size w' sv ([195]) ∧ Fr [] w w' := by
  have OKC : ∀ W, Calls Try.prog 13 #[.agg #[.int .i64 2, .int .i64 a, .int .i64 b, .int .i64 alu, .int .i64 cc, .int .u64 imm, .int .i64 d]] W fun e w' => e = .returned (.bool true) ∧ Fr [] W w' := fun W => by
    have := ok_any ⟨2, a, b, alu, cc, imm, d⟩ W
    rw [hok] at this
    exact this
  clear hok
  have ea := and7 a ha0 ha1
  obtain ⟨p, hp⟩ : ∃ p, a % 8 = p := ⟨_, rfl⟩
  rw [hp] at ea
  have p0 : 0 ≤ p := by omega
  have p1 : p ≤ 7 := by omega
  clear hp ha0 ha1
  go_enter Try.func10, Try.ntmps10
  go_upto_region 4 with (first | (go_at_call 13; refine (OKC _).mono ?_; rintro e W1 ⟨rfl, hf1⟩; obtain ⟨x0, x1, x2, x3, x4, x5, x6, xf⟩ := cells7 (hf1.heap (heap_new _ _) (by simp))) | (go_at_call 17; refine (group_any _ _).mono ?_; rintro e w' ⟨rfl, rfl⟩))
  refine wp_world (fun W => Fr [] w W ∧ W.heap[w.heap.size]? = some (.cells #[.int .i64 2, .int .i64 a, .int .i64 b, .int .i64 alu, .int .i64 cc, .int .u64 imm, .int .i64 d] 24 (0, 0)) ∧ W.heap[W1.heap.size]? = some (intRow (groupOps 2)) ∧ W.heap[W1.heap.size + 1]? = some (u8Row (groupCodes 2)))
    ⟨((((Fr.refl [] w).alloc _).then0 hf1).alloc _).alloc _, heap_old _ (heap_old _ (hf1.heap (heap_new _ _) (by simp))), heap_old _ (heap_new _ _), heap_at (by simp) rfl⟩ ?_
  clear x0 x1 x2 x3 x4 x5 x6 xf
  rintro W ⟨hW, hB, hG, hC⟩
  obtain ⟨x0, x1, x2, x3, x4, x5, x6, xf⟩ := cells7 hB
  have hlt : w.heap.size < W.heap.size := lt_of_heap hB
  have HB := Lib.hid hB
  have HG := Lib.hid hG
  have HC := Lib.hid hC
  clear hB hG hC xf hf1 OKC
  go_wp2_with fail
  go_ret2; exact ⟨_, rfl, OwnB.lit [195] (heap_at (by simp) rfl) (by simp [byteVal]) (by have := hW.size; (try simp); omega) (by simp [maxLen]), (by (repeat' (with_reducible (first | apply Fr.alloc | apply Fr.drew | exact hW))))⟩
set_option maxRecDepth 100000 in
set_option maxHeartbeats 4000000 in
theorem enc_3 (a b alu cc imm d : Int) (hok : okB ⟨3, a, b, alu, cc, imm, d⟩ = true) (ha0 : 0 ≤ a) (ha1 : a ≤ 15) (w : World) :
    Calls Try.prog 10 #[.agg #[.int .i64 3, .int .i64 a, .int .i64 b, .int .i64 alu, .int .i64 cc, .int .u64 imm, .int .i64 d]] w fun e w' => ∃ sv, e = .returned (.tuple #[sv, .bool true]) ∧ OwnB w.heap.size w' sv (aheadL a ++ [ub (80 + a % 8)]) ∧ Fr [] w w' := by
  have OKC : ∀ W, Calls Try.prog 13 #[.agg #[.int .i64 3, .int .i64 a, .int .i64 b, .int .i64 alu, .int .i64 cc, .int .u64 imm, .int .i64 d]] W fun e w' => e = .returned (.bool true) ∧ Fr [] W w' := fun W => by
    have := ok_any ⟨3, a, b, alu, cc, imm, d⟩ W
    rw [hok] at this
    exact this
  clear hok
  obtain ⟨AL, hAL⟩ : ∃ AL, aheadL a = AL := ⟨_, rfl⟩
  have hAl : AL.length ≤ 1 := by rw [← hAL]; unfold aheadL; split <;> simp
  have AHD : ∀ W : World, Calls Try.prog 18 #[.int .i64 a] W fun e w' => ∃ sv, e = .returned sv ∧ OwnB W.heap.size w' sv AL ∧ Fr [] W w' := fun W => by
    rw [← hAL]; exact ahead_any a W
  rw [hAL]
  clear hAL
  have ea := and7 a ha0 ha1
  obtain ⟨p, hp⟩ : ∃ p, a % 8 = p := ⟨_, rfl⟩
  rw [hp] at ea
  rw [hp]
  have p0 : 0 ≤ p := by omega
  have p1 : p ≤ 7 := by omega
  clear hp ha0 ha1
  obtain ⟨c1, hc1⟩ : ∃ c1, ub (80 + p) = c1 := ⟨_, rfl⟩
  have HC1 : Hid (80 + p = (c1.toNat : Int)) := Lib.hid (by rw [← hc1, ub_id (by omega) (by omega)])
  rw [hc1]
  clear hc1
  go_enter Try.func10, Try.ntmps10
  go_upto_region 4 with (first | (go_at_call 13; refine (OKC _).mono ?_; rintro e W1 ⟨rfl, hf1⟩; obtain ⟨x0, x1, x2, x3, x4, x5, x6, xf⟩ := cells7 (hf1.heap (heap_new _ _) (by simp))) | (go_at_call 17; refine (group_any _ _).mono ?_; rintro e w' ⟨rfl, rfl⟩))
  refine wp_world (fun W => Fr [] w W ∧ W.heap[w.heap.size]? = some (.cells #[.int .i64 3, .int .i64 a, .int .i64 b, .int .i64 alu, .int .i64 cc, .int .u64 imm, .int .i64 d] 24 (0, 0)) ∧ W.heap[W1.heap.size]? = some (intRow (groupOps 3)) ∧ W.heap[W1.heap.size + 1]? = some (u8Row (groupCodes 3)))
    ⟨((((Fr.refl [] w).alloc _).then0 hf1).alloc _).alloc _, heap_old _ (heap_old _ (hf1.heap (heap_new _ _) (by simp))), heap_old _ (heap_new _ _), heap_at (by simp) rfl⟩ ?_
  clear x0 x1 x2 x3 x4 x5 x6 xf
  rintro W ⟨hW, hB, hG, hC⟩
  obtain ⟨x0, x1, x2, x3, x4, x5, x6, xf⟩ := cells7 hB
  have hlt : w.heap.size < W.heap.size := lt_of_heap hB
  have HB := Lib.hid hB
  have HG := Lib.hid hG
  have HC := Lib.hid hC
  clear hB hG hC xf hf1 OKC
  go_wp2_with (first | (go_at_call 18; refine (AHD _).mono ?_; rintro e W2 ⟨sv, rfl, hown0, hf0⟩) | (at_builtin; refine wpList_append_bytes rfl _ _ rfl w.heap.size sv AL rfl ((hown0.mono (Nat.le_of_lt hlt)).fr0 ((Fr.refl [] _).alloc _)) W2.heap.size 1 1 [c1] rfl rfl (fun i h => by simp at h; subst h; simp [HC1.out]) (by simp; omega) (by have := hf0.size; simp; omega) ?_; intro v' W3 hown hgr))
  go_ret2; exact ⟨_, rfl, hown, Fr.grown ((hW.then0 hf0).alloc _) hgr (fun k hk => .inr (by have := (hown0.lt k hk).1; omega))⟩
set_option maxRecDepth 100000 in
set_option maxHeartbeats 4000000 in
theorem enc_4 (a b alu cc imm d : Int) (hok : okB ⟨4, a, b, alu, cc, imm, d⟩ = true) (ha0 : 0 ≤ a) (ha1 : a ≤ 15) (w : World) :
    Calls Try.prog 10 #[.agg #[.int .i64 4, .int .i64 a, .int .i64 b, .int .i64 alu, .int .i64 cc, .int .u64 imm, .int .i64 d]] w fun e w' => ∃ sv, e = .returned (.tuple #[sv, .bool true]) ∧ OwnB w.heap.size w' sv (aheadL a ++ [ub (88 + a % 8)]) ∧ Fr [] w w' := by
  have OKC : ∀ W, Calls Try.prog 13 #[.agg #[.int .i64 4, .int .i64 a, .int .i64 b, .int .i64 alu, .int .i64 cc, .int .u64 imm, .int .i64 d]] W fun e w' => e = .returned (.bool true) ∧ Fr [] W w' := fun W => by
    have := ok_any ⟨4, a, b, alu, cc, imm, d⟩ W
    rw [hok] at this
    exact this
  clear hok
  obtain ⟨AL, hAL⟩ : ∃ AL, aheadL a = AL := ⟨_, rfl⟩
  have hAl : AL.length ≤ 1 := by rw [← hAL]; unfold aheadL; split <;> simp
  have AHD : ∀ W : World, Calls Try.prog 18 #[.int .i64 a] W fun e w' => ∃ sv, e = .returned sv ∧ OwnB W.heap.size w' sv AL ∧ Fr [] W w' := fun W => by
    rw [← hAL]; exact ahead_any a W
  rw [hAL]
  clear hAL
  have ea := and7 a ha0 ha1
  obtain ⟨p, hp⟩ : ∃ p, a % 8 = p := ⟨_, rfl⟩
  rw [hp] at ea
  rw [hp]
  have p0 : 0 ≤ p := by omega
  have p1 : p ≤ 7 := by omega
  clear hp ha0 ha1
  obtain ⟨c1, hc1⟩ : ∃ c1, ub (88 + p) = c1 := ⟨_, rfl⟩
  have HC1 : Hid (88 + p = (c1.toNat : Int)) := Lib.hid (by rw [← hc1, ub_id (by omega) (by omega)])
  rw [hc1]
  clear hc1
  go_enter Try.func10, Try.ntmps10
  go_upto_region 4 with (first | (go_at_call 13; refine (OKC _).mono ?_; rintro e W1 ⟨rfl, hf1⟩; obtain ⟨x0, x1, x2, x3, x4, x5, x6, xf⟩ := cells7 (hf1.heap (heap_new _ _) (by simp))) | (go_at_call 17; refine (group_any _ _).mono ?_; rintro e w' ⟨rfl, rfl⟩))
  refine wp_world (fun W => Fr [] w W ∧ W.heap[w.heap.size]? = some (.cells #[.int .i64 4, .int .i64 a, .int .i64 b, .int .i64 alu, .int .i64 cc, .int .u64 imm, .int .i64 d] 24 (0, 0)) ∧ W.heap[W1.heap.size]? = some (intRow (groupOps 4)) ∧ W.heap[W1.heap.size + 1]? = some (u8Row (groupCodes 4)))
    ⟨((((Fr.refl [] w).alloc _).then0 hf1).alloc _).alloc _, heap_old _ (heap_old _ (hf1.heap (heap_new _ _) (by simp))), heap_old _ (heap_new _ _), heap_at (by simp) rfl⟩ ?_
  clear x0 x1 x2 x3 x4 x5 x6 xf
  rintro W ⟨hW, hB, hG, hC⟩
  obtain ⟨x0, x1, x2, x3, x4, x5, x6, xf⟩ := cells7 hB
  have hlt : w.heap.size < W.heap.size := lt_of_heap hB
  have HB := Lib.hid hB
  have HG := Lib.hid hG
  have HC := Lib.hid hC
  clear hB hG hC xf hf1 OKC
  go_wp2_with (first | (go_at_call 18; refine (AHD _).mono ?_; rintro e W2 ⟨sv, rfl, hown0, hf0⟩) | (at_builtin; refine wpList_append_bytes rfl _ _ rfl w.heap.size sv AL rfl ((hown0.mono (Nat.le_of_lt hlt)).fr0 ((Fr.refl [] _).alloc _)) W2.heap.size 1 1 [c1] rfl rfl (fun i h => by simp at h; subst h; simp [HC1.out]) (by simp; omega) (by have := hf0.size; simp; omega) ?_; intro v' W3 hown hgr))
  go_ret2; exact ⟨_, rfl, hown, Fr.grown ((hW.then0 hf0).alloc _) hgr (fun k hk => .inr (by have := (hown0.lt k hk).1; omega))⟩
set_option maxRecDepth 100000 in
set_option maxHeartbeats 4000000 in
theorem enc_19 (a b alu cc imm d : Int) (hok : okB ⟨19, a, b, alu, cc, imm, d⟩ = true) (ha0 : 0 ≤ a) (ha1 : a ≤ 15) (w : World) :
    Calls Try.prog 10 #[.agg #[.int .i64 19, .int .i64 a, .int .i64 b, .int .i64 alu, .int .i64 cc, .int .u64 imm, .int .i64 d]] w fun e w' => ∃ sv, e = .returned (.tuple #[sv, .bool true]) ∧ OwnB w.heap.size w' sv ([235, ub d]) ∧ Fr [] w w' := by
  have OKC : ∀ W, Calls Try.prog 13 #[.agg #[.int .i64 19, .int .i64 a, .int .i64 b, .int .i64 alu, .int .i64 cc, .int .u64 imm, .int .i64 d]] W fun e w' => e = .returned (.bool true) ∧ Fr [] W w' := fun W => by
    have := ok_any ⟨19, a, b, alu, cc, imm, d⟩ W
    rw [hok] at this
    exact this
  clear hok
  have ea := and7 a ha0 ha1
  obtain ⟨p, hp⟩ : ∃ p, a % 8 = p := ⟨_, rfl⟩
  rw [hp] at ea
  have p0 : 0 ≤ p := by omega
  have p1 : p ≤ 7 := by omega
  clear hp ha0 ha1
  obtain ⟨c1, hc1⟩ : ∃ c1, ub (d) = c1 := ⟨_, rfl⟩
  have HC1 : Hid (d % 256 = (c1.toNat : Int)) := Lib.hid (by rw [← hc1, ub_val])
  rw [hc1]
  clear hc1
  go_enter Try.func10, Try.ntmps10
  go_upto_region 4 with (first | (go_at_call 13; refine (OKC _).mono ?_; rintro e W1 ⟨rfl, hf1⟩; obtain ⟨x0, x1, x2, x3, x4, x5, x6, xf⟩ := cells7 (hf1.heap (heap_new _ _) (by simp))) | (go_at_call 17; refine (group_any _ _).mono ?_; rintro e w' ⟨rfl, rfl⟩))
  refine wp_world (fun W => Fr [] w W ∧ W.heap[w.heap.size]? = some (.cells #[.int .i64 19, .int .i64 a, .int .i64 b, .int .i64 alu, .int .i64 cc, .int .u64 imm, .int .i64 d] 24 (0, 0)) ∧ W.heap[W1.heap.size]? = some (intRow (groupOps 19)) ∧ W.heap[W1.heap.size + 1]? = some (u8Row (groupCodes 19)))
    ⟨((((Fr.refl [] w).alloc _).then0 hf1).alloc _).alloc _, heap_old _ (heap_old _ (hf1.heap (heap_new _ _) (by simp))), heap_old _ (heap_new _ _), heap_at (by simp) rfl⟩ ?_
  clear x0 x1 x2 x3 x4 x5 x6 xf
  rintro W ⟨hW, hB, hG, hC⟩
  obtain ⟨x0, x1, x2, x3, x4, x5, x6, xf⟩ := cells7 hB
  have hlt : w.heap.size < W.heap.size := lt_of_heap hB
  have HB := Lib.hid hB
  have HG := Lib.hid hG
  have HC := Lib.hid hC
  clear hB hG hC xf hf1 OKC
  go_wp2_with fail
  go_ret2; exact ⟨_, rfl, OwnB.lit [235, c1] (heap_at (by simp) rfl) (by simp [byteVal, HC1.out]) (by have := hW.size; (try simp); omega) (by simp [maxLen]), (by (repeat' (with_reducible (first | apply Fr.alloc | apply Fr.drew | exact hW))))⟩
set_option maxRecDepth 100000 in
set_option maxHeartbeats 4000000 in
theorem enc_20 (a b alu cc imm d : Int) (hok : okB ⟨20, a, b, alu, cc, imm, d⟩ = true) (ha0 : 0 ≤ a) (ha1 : a ≤ 15) (hc0 : 0 ≤ cc) (hc1 : cc ≤ 15) (w : World) :
    Calls Try.prog 10 #[.agg #[.int .i64 20, .int .i64 a, .int .i64 b, .int .i64 alu, .int .i64 cc, .int .u64 imm, .int .i64 d]] w fun e w' => ∃ sv, e = .returned (.tuple #[sv, .bool true]) ∧ OwnB w.heap.size w' sv ([ub (112 + cc), ub d]) ∧ Fr [] w w' := by
  have OKC : ∀ W, Calls Try.prog 13 #[.agg #[.int .i64 20, .int .i64 a, .int .i64 b, .int .i64 alu, .int .i64 cc, .int .u64 imm, .int .i64 d]] W fun e w' => e = .returned (.bool true) ∧ Fr [] W w' := fun W => by
    have := ok_any ⟨20, a, b, alu, cc, imm, d⟩ W
    rw [hok] at this
    exact this
  clear hok
  have ea := and7 a ha0 ha1
  obtain ⟨p, hp⟩ : ∃ p, a % 8 = p := ⟨_, rfl⟩
  rw [hp] at ea
  have p0 : 0 ≤ p := by omega
  have p1 : p ≤ 7 := by omega
  clear hp ha0 ha1
  obtain ⟨c1, hc1⟩ : ∃ c1, ub (112 + cc) = c1 := ⟨_, rfl⟩
  have HC1 : Hid (112 + cc = (c1.toNat : Int)) := Lib.hid (by rw [← hc1, ub_id (by omega) (by omega)])
  rw [hc1]
  clear hc1
  obtain ⟨c2, hc2⟩ : ∃ c2, ub (d) = c2 := ⟨_, rfl⟩
  have HC2 : Hid (d % 256 = (c2.toNat : Int)) := Lib.hid (by rw [← hc2, ub_val])
  rw [hc2]
  clear hc2
  go_enter Try.func10, Try.ntmps10
  go_upto_region 4 with (first | (go_at_call 13; refine (OKC _).mono ?_; rintro e W1 ⟨rfl, hf1⟩; obtain ⟨x0, x1, x2, x3, x4, x5, x6, xf⟩ := cells7 (hf1.heap (heap_new _ _) (by simp))) | (go_at_call 17; refine (group_any _ _).mono ?_; rintro e w' ⟨rfl, rfl⟩))
  refine wp_world (fun W => Fr [] w W ∧ W.heap[w.heap.size]? = some (.cells #[.int .i64 20, .int .i64 a, .int .i64 b, .int .i64 alu, .int .i64 cc, .int .u64 imm, .int .i64 d] 24 (0, 0)) ∧ W.heap[W1.heap.size]? = some (intRow (groupOps 20)) ∧ W.heap[W1.heap.size + 1]? = some (u8Row (groupCodes 20)))
    ⟨((((Fr.refl [] w).alloc _).then0 hf1).alloc _).alloc _, heap_old _ (heap_old _ (hf1.heap (heap_new _ _) (by simp))), heap_old _ (heap_new _ _), heap_at (by simp) rfl⟩ ?_
  clear x0 x1 x2 x3 x4 x5 x6 xf
  rintro W ⟨hW, hB, hG, hC⟩
  obtain ⟨x0, x1, x2, x3, x4, x5, x6, xf⟩ := cells7 hB
  have hlt : w.heap.size < W.heap.size := lt_of_heap hB
  have HB := Lib.hid hB
  have HG := Lib.hid hG
  have HC := Lib.hid hC
  clear hB hG hC xf hf1 OKC
  go_wp2_with fail
  go_ret2; exact ⟨_, rfl, OwnB.lit [c1, c2] (heap_at (by simp) rfl) (by simp [byteVal, HC1.out, HC2.out]) (by have := hW.size; (try simp); omega) (by simp [maxLen]), (by (repeat' (with_reducible (first | apply Fr.alloc | apply Fr.drew | exact hW))))⟩
set_option maxRecDepth 100000 in
set_option maxHeartbeats 4000000 in
theorem enc_23 (a b alu cc imm d : Int) (hok : okB ⟨23, a, b, alu, cc, imm, d⟩ = true) (ha0 : 0 ≤ a) (ha1 : a ≤ 15) (hi0 : 0 ≤ imm) (hi1 : imm ≤ 255) (w : World) :
    Calls Try.prog 10 #[.agg #[.int .i64 23, .int .i64 a, .int .i64 b, .int .i64 alu, .int .i64 cc, .int .u64 imm, .int .i64 d]] w fun e w' => ∃ sv, e = .returned (.tuple #[sv, .bool true]) ∧ OwnB w.heap.size w' sv ([205, ub imm]) ∧ Fr [] w w' := by
  have OKC : ∀ W, Calls Try.prog 13 #[.agg #[.int .i64 23, .int .i64 a, .int .i64 b, .int .i64 alu, .int .i64 cc, .int .u64 imm, .int .i64 d]] W fun e w' => e = .returned (.bool true) ∧ Fr [] W w' := fun W => by
    have := ok_any ⟨23, a, b, alu, cc, imm, d⟩ W
    rw [hok] at this
    exact this
  clear hok
  have ea := and7 a ha0 ha1
  obtain ⟨p, hp⟩ : ∃ p, a % 8 = p := ⟨_, rfl⟩
  rw [hp] at ea
  have p0 : 0 ≤ p := by omega
  have p1 : p ≤ 7 := by omega
  clear hp ha0 ha1
  obtain ⟨c1, hc1⟩ : ∃ c1, ub (imm) = c1 := ⟨_, rfl⟩
  have HC1 : Hid (imm = (c1.toNat : Int)) := Lib.hid (by rw [← hc1, ub_id (by omega) (by omega)])
  rw [hc1]
  clear hc1
  go_enter Try.func10, Try.ntmps10
  go_upto_region 4 with (first | (go_at_call 13; refine (OKC _).mono ?_; rintro e W1 ⟨rfl, hf1⟩; obtain ⟨x0, x1, x2, x3, x4, x5, x6, xf⟩ := cells7 (hf1.heap (heap_new _ _) (by simp))) | (go_at_call 17; refine (group_any _ _).mono ?_; rintro e w' ⟨rfl, rfl⟩))
  refine wp_world (fun W => Fr [] w W ∧ W.heap[w.heap.size]? = some (.cells #[.int .i64 23, .int .i64 a, .int .i64 b, .int .i64 alu, .int .i64 cc, .int .u64 imm, .int .i64 d] 24 (0, 0)) ∧ W.heap[W1.heap.size]? = some (intRow (groupOps 23)) ∧ W.heap[W1.heap.size + 1]? = some (u8Row (groupCodes 23)))
    ⟨((((Fr.refl [] w).alloc _).then0 hf1).alloc _).alloc _, heap_old _ (heap_old _ (hf1.heap (heap_new _ _) (by simp))), heap_old _ (heap_new _ _), heap_at (by simp) rfl⟩ ?_
  clear x0 x1 x2 x3 x4 x5 x6 xf
  rintro W ⟨hW, hB, hG, hC⟩
  obtain ⟨x0, x1, x2, x3, x4, x5, x6, xf⟩ := cells7 hB
  have hlt : w.heap.size < W.heap.size := lt_of_heap hB
  have HB := Lib.hid hB
  have HG := Lib.hid hG
  have HC := Lib.hid hC
  clear hB hG hC xf hf1 OKC
  go_wp2_with fail
  go_ret2; exact ⟨_, rfl, OwnB.lit [205, c1] (heap_at (by simp) rfl) (by simp [byteVal, HC1.out]) (by have := hW.size; (try simp); omega) (by simp [maxLen]), (by (repeat' (with_reducible (first | apply Fr.alloc | apply Fr.drew | exact hW))))⟩
end Go.Proofs.Ytegnmnhdpnmnpaa
