/- dec.Encode, walked op by op. -/
import Derived.Deep.RegionHeld3
import Derived.Deep.DeepCutAuto
import Derived.Deep.Light
import Derived.Test.YtegnmnhdpnmnpaaCode
import Derived.Test.YtegnmnhdpnmnpaaOk3
namespace Go.Proofs.Ytegnmnhdpnmnpaa
set_option linter.unusedVariables false
set_option linter.unusedSimpArgs false
open Go.RowKit

theorem wrap_u8m (z : Int) : IntKind.u8.wrap z = z % 256 := by
  unfold IntKind.wrap
  simp only [IntKind.bits, IntKind.signed, Bool.false_and]
  simp
theorem wrap_c (c : UInt8) : IntKind.u8.wrap (c.toNat : Int) = c.toNat := wrap_u8 _ c.toNat_lt
set_option maxRecDepth 100000 in
set_option maxHeartbeats 4000000 in
theorem enc_5 (a b alu cc imm d : Int) (hok : okB ⟨5, a, b, alu, cc, imm, d⟩ = true) (ha0 : 0 ≤ a) (ha1 : a ≤ 15) (hi0 : 0 ≤ imm) (hi1 : imm < 18446744073709551616) (w : World) :
    Calls Try.prog 10 #[.agg #[.int .i64 5, .int .i64 a, .int .i64 b, .int .i64 alu, .int .i64 cc, .int .u64 imm, .int .i64 d]] w fun e w' => ∃ sv, e = .returned (.tuple #[sv, .bool true]) ∧ OwnB w.heap.size w' sv ([ub (rexI 0 a), ub (184 + a % 8)] ++ leB imm 8) ∧ Fr [] w w' := by
  have OKC : ∀ W, Calls Try.prog 13 #[.agg #[.int .i64 5, .int .i64 a, .int .i64 b, .int .i64 alu, .int .i64 cc, .int .u64 imm, .int .i64 d]] W fun e w' => e = .returned (.bool true) ∧ Fr [] W w' := fun W => by
    have := ok_any ⟨5, a, b, alu, cc, imm, d⟩ W
    rw [hok] at this
    exact this
  clear hok
  obtain ⟨c0, hc0⟩ : ∃ c0, ub (rexI 0 a) = c0 := ⟨_, rfl⟩
  have HC0 : Hid (rexI 0 a = (c0.toNat : Int)) := Lib.hid (by rw [← hc0, ub_id (rexI_bd 0 a).1 (rexI_bd 0 a).2])
  rw [hc0]
  clear hc0
  have RX : ∀ W, Calls Try.prog 19 #[.int .i64 0, .int .i64 a] W fun e w' => e = .returned (.int .u8 (c0.toNat : Int)) ∧ W = w' := fun W => by
    rw [← HC0.out]; exact rex_any 0 a W
  have LE : ∀ W, Calls Try.prog 20 #[.int .u64 imm, .int .i64 8] W fun e w' => ∃ g cp, e = .returned (.slice (some ⟨g, 0, none⟩) 8 cp) ∧ Made W w' g cp (leB imm 8) := le_any imm hi0 hi1 8 (by omega) (by omega)
  clear hi0 hi1
  have ea := and7 a ha0 ha1
  obtain ⟨p, hp⟩ : ∃ p, a % 8 = p := ⟨_, rfl⟩
  rw [hp] at ea
  rw [hp]
  have p0 : 0 ≤ p := by omega
  have p1 : p ≤ 7 := by omega
  clear hp ha0 ha1
  obtain ⟨c1, hc1⟩ : ∃ c1, ub (184 + p) = c1 := ⟨_, rfl⟩
  have HC1 : Hid (184 + p = (c1.toNat : Int)) := Lib.hid (by rw [← hc1, ub_id (by omega) (by omega)])
  rw [hc1]
  clear hc1
  go_enter Try.func10, Try.ntmps10
  go_upto_region 4 with (first | (go_at_call 13; refine (OKC _).mono ?_; rintro e W1 ⟨rfl, hf1⟩; obtain ⟨x0, x1, x2, x3, x4, x5, x6, xf⟩ := cells7 (hf1.heap (heap_new _ _) (by simp))) | (go_at_call 17; refine (group_any _ _).mono ?_; rintro e w' ⟨rfl, rfl⟩))
  refine wp_world (fun W => Fr [] w W ∧ W.heap[w.heap.size]? = some (.cells #[.int .i64 5, .int .i64 a, .int .i64 b, .int .i64 alu, .int .i64 cc, .int .u64 imm, .int .i64 d] 24 (0, 0)) ∧ W.heap[W1.heap.size]? = some (intRow (groupOps 5)) ∧ W.heap[W1.heap.size + 1]? = some (u8Row (groupCodes 5)))
    ⟨((((Fr.refl [] w).alloc _).then0 hf1).alloc _).alloc _, heap_old _ (heap_old _ (hf1.heap (heap_new _ _) (by simp))), heap_old _ (heap_new _ _), heap_at (by simp) rfl⟩ ?_
  clear x0 x1 x2 x3 x4 x5 x6 xf
  rintro W ⟨hW, hB, hG, hC⟩
  obtain ⟨x0, x1, x2, x3, x4, x5, x6, xf⟩ := cells7 hB
  have hlt : w.heap.size < W.heap.size := lt_of_heap hB
  have HB := Lib.hid hB
  have HG := Lib.hid hG
  have HC := Lib.hid hC
  clear hB hG hC xf hf1 OKC
  go_wp2_with fail
  (first | go_region_held3 (fun w' => w'.cell? ⟨w.heap.size, 0, none⟩ = some (.int .i64 5) ∧ w'.cell? ⟨w.heap.size, 1, none⟩ = some (.int .i64 a) ∧ w'.cell? ⟨w.heap.size, 2, none⟩ = some (.int .i64 b) ∧ w'.cell? ⟨w.heap.size, 3, none⟩ = some (.int .i64 alu) ∧ w'.cell? ⟨w.heap.size, 4, none⟩ = some (.int .i64 cc) ∧ w'.cell? ⟨w.heap.size, 5, none⟩ = some (.int .u64 imm) ∧ w'.cell? ⟨w.heap.size, 6, none⟩ = some (.int .i64 d)) (first | exact cells7' (t := 24) (by (repeat' (with_reducible (first | apply heap_old | apply heap_drew))); exact HB.out) | exact cells7' (t := 24) (by (repeat' (with_reducible (first | apply heap_old | apply heap_drew))); exact hm.fr.heap (by (repeat' (with_reducible (first | apply heap_old | apply heap_drew))); exact HB.out) (by simp)) | exact cells7' (t := 24) (grown_heap hgr (by (repeat' (with_reducible (first | apply heap_old | apply heap_drew))); exact hm.fr.heap (by (repeat' (with_reducible (first | apply heap_old | apply heap_drew))); exact HB.out) (by simp)) (by simp [Value.ownBlock]; omega)) | exact cells7' (t := 24) (grown_heap hgr (by (repeat' (with_reducible (first | apply heap_old | apply heap_drew))); exact hm.fr.heap (by (repeat' (with_reducible (first | apply heap_old | apply heap_drew))); exact HB.out) (by simp)) (by have h9 := Nat.lt_of_lt_of_le hlt hm.fr.size; simp [Value.ownBlock]; (try simp at h9); omega))) (first | (go_at_call 19; refine (RX _).mono ?_; rintro e w' ⟨rfl, rfl⟩) | (go_at_call 20; refine (LE _).mono ?_; rintro e W2 ⟨g, cp, rfl, hm⟩) | (refine step_append_bytes (by rfl) _ _ (by rfl) w.heap.size _ [c0, c1] (by rfl) (OwnB.lit _ (by first | exact hm.fr.heap (heap_at (by simp) rfl) (by simp) | exact heap_at (by simp) rfl) (by simp [byteVal, wrap_c, HC1.out]) (by first | exact Nat.le_of_lt hlt | exact Nat.le_of_lt (Nat.lt_of_lt_of_le hlt hm.fr.size)) (by simp [maxLen])) g 8 cp (leB imm 8) (by rfl) (by rw [leB_length]) (by first | exact hm.cells | exact fun i h => ((Fr.refl [] _).alloc _).cell (hm.cells i h) (by simp)) (by simp [leB_length]) (by simp [leB_length]) (Nat.le_of_lt (lt_of_heap (by (repeat' (with_reducible (first | apply heap_old | apply heap_drew))); exact hm.fr.heap (by (repeat' (with_reducible (first | apply heap_old | apply heap_drew))); exact HB.out) (by simp)))) ?_; intro g' cap' W3 hown hgr)) | fail)
  all_goals (go_wp2_with fail; go_ret2; exact ⟨_, rfl, hown, Fr.grown (by (repeat' (with_reducible (first | apply Fr.alloc | apply Fr.drew | exact hW | refine Fr.then0 ?_ hm.fr)))) hgr (by have h9 := hW.size; have h8 := hm.fr.size; intro k hk; simp [Value.ownBlock] at hk; right; (try simp at h8); omega)⟩)
set_option maxRecDepth 100000 in
set_option maxHeartbeats 4000000 in
theorem enc_14 (a b alu cc imm d : Int) (hok : okB ⟨14, a, b, alu, cc, imm, d⟩ = true) (k : Nat) (hk : idxL (groupOps 14) alu = k) (cd : Int) (hk7 : k < 3) (hcd : (groupCodes 14)[k]? = some cd) (hcd0 : 0 ≤ cd) (hcd1 : cd < 249) (ha0 : 0 ≤ a) (ha1 : a ≤ 15) (hb0 : 0 ≤ b) (hb1 : b ≤ 15) (w : World) :
    Calls Try.prog 10 #[.agg #[.int .i64 14, .int .i64 a, .int .i64 b, .int .i64 alu, .int .i64 cc, .int .u64 imm, .int .i64 d]] w fun e w' => ∃ sv, e = .returned (.tuple #[sv, .bool true]) ∧ OwnB w.heap.size w' sv ([ub (rexI 0 b), 131, ub (cd + b % 8), ub imm]) ∧ Fr [] w w' := by
  have OKC : ∀ W, Calls Try.prog 13 #[.agg #[.int .i64 14, .int .i64 a, .int .i64 b, .int .i64 alu, .int .i64 cc, .int .u64 imm, .int .i64 d]] W fun e w' => e = .returned (.bool true) ∧ Fr [] W w' := fun W => by
    have := ok_any ⟨14, a, b, alu, cc, imm, d⟩ W
    rw [hok] at this
    exact this
  clear hok
  obtain ⟨c0, hc0⟩ : ∃ c0, ub (rexI 0 b) = c0 := ⟨_, rfl⟩
  have HC0 : Hid (rexI 0 b = (c0.toNat : Int)) := Lib.hid (by rw [← hc0, ub_id (rexI_bd 0 b).1 (rexI_bd 0 b).2])
  rw [hc0]
  clear hc0
  have RX : ∀ W, Calls Try.prog 19 #[.int .i64 0, .int .i64 b] W fun e w' => e = .returned (.int .u8 (c0.toNat : Int)) ∧ W = w' := fun W => by
    rw [← HC0.out]; exact rex_any 0 b W
  have ea := and7 a ha0 ha1
  obtain ⟨p, hp⟩ : ∃ p, a % 8 = p := ⟨_, rfl⟩
  rw [hp] at ea
  have p0 : 0 ≤ p := by omega
  have p1 : p ≤ 7 := by omega
  clear hp ha0 ha1
  have eb := and7 b hb0 hb1
  obtain ⟨q, hq⟩ : ∃ q, b % 8 = q := ⟨_, rfl⟩
  rw [hq] at eb
  rw [hq]
  have q0 : 0 ≤ q := by omega
  have q1 : q ≤ 7 := by omega
  clear hq hb0 hb1
  obtain ⟨c2, hc2⟩ : ∃ c2, ub (cd + q) = c2 := ⟨_, rfl⟩
  have HC2 : Hid (cd + q = (c2.toNat : Int)) := Lib.hid (by rw [← hc2, ub_id (by omega) (by omega)])
  rw [hc2]
  clear hc2
  obtain ⟨c3, hc3⟩ : ∃ c3, ub (imm) = c3 := ⟨_, rfl⟩
  have HC3 : Hid (imm % 256 = (c3.toNat : Int)) := Lib.hid (by rw [← hc3, ub_val])
  rw [hc3]
  clear hc3
  have OF : ∀ W g gc, IntCells W g (groupOps 14) → W.cell? ⟨gc, k, none⟩ = some (.int .u8 cd) → Calls Try.prog 21 #[.slice (some ⟨g, 0, none⟩) (groupOps 14).length (groupOps 14).length, .slice (some ⟨gc, 0, none⟩) (groupCodes 14).length (groupCodes 14).length, .int .i64 alu] W fun e w' => e = .returned (.int .u8 cd) ∧ W = w' := fun W g gc h1 h2 =>
    of_any W g gc (groupOps 14) (by decide) alu h1 k hk (groupCodes 14).length hk7 _ h2
  have HCD : Hid (((groupCodes 14).map fun x => Value.int .u8 x)[k]? = some (.int .u8 cd)) := Lib.hid (by simp [hcd])
  clear hk hcd
  have HW1 : Hid (IntKind.u8.wrap (q) = q) := Lib.hid (by rw [wrap_u8m]; try omega)
  have HW3 : Hid (IntKind.u8.wrap (imm) = imm % 256) := Lib.hid (by rw [wrap_u8m]; try omega)
  go_enter Try.func10, Try.ntmps10
  go_upto_region 4 with (first | (go_at_call 13; refine (OKC _).mono ?_; rintro e W1 ⟨rfl, hf1⟩; obtain ⟨x0, x1, x2, x3, x4, x5, x6, xf⟩ := cells7 (hf1.heap (heap_new _ _) (by simp))) | (go_at_call 17; refine (group_any _ _).mono ?_; rintro e w' ⟨rfl, rfl⟩))
  refine wp_world (fun W => Fr [] w W ∧ W.heap[w.heap.size]? = some (.cells #[.int .i64 14, .int .i64 a, .int .i64 b, .int .i64 alu, .int .i64 cc, .int .u64 imm, .int .i64 d] 24 (0, 0)) ∧ W.heap[W1.heap.size]? = some (intRow (groupOps 14)) ∧ W.heap[W1.heap.size + 1]? = some (u8Row (groupCodes 14)))
    ⟨((((Fr.refl [] w).alloc _).then0 hf1).alloc _).alloc _, heap_old _ (heap_old _ (hf1.heap (heap_new _ _) (by simp))), heap_old _ (heap_new _ _), heap_at (by simp) rfl⟩ ?_
  clear x0 x1 x2 x3 x4 x5 x6 xf
  rintro W ⟨hW, hB, hG, hC⟩
  obtain ⟨x0, x1, x2, x3, x4, x5, x6, xf⟩ := cells7 hB
  have hlt : w.heap.size < W.heap.size := lt_of_heap hB
  have HB := Lib.hid hB
  have HG := Lib.hid hG
  have HC := Lib.hid hC
  clear hB hG hC xf hf1 OKC
  go_wp2_with fail
  (first | go_region_held3 (fun w' => w'.cell? ⟨w.heap.size, 0, none⟩ = some (.int .i64 14) ∧ w'.cell? ⟨w.heap.size, 1, none⟩ = some (.int .i64 a) ∧ w'.cell? ⟨w.heap.size, 2, none⟩ = some (.int .i64 b) ∧ w'.cell? ⟨w.heap.size, 3, none⟩ = some (.int .i64 alu) ∧ w'.cell? ⟨w.heap.size, 4, none⟩ = some (.int .i64 cc) ∧ w'.cell? ⟨w.heap.size, 5, none⟩ = some (.int .u64 imm) ∧ w'.cell? ⟨w.heap.size, 6, none⟩ = some (.int .i64 d)) (first | exact cells7' (t := 24) (by (repeat' (with_reducible (first | apply heap_old | apply heap_drew))); exact HB.out)) (first | (go_at_call 19; refine (RX _).mono ?_; rintro e w' ⟨rfl, rfl⟩) | (go_at_call 21; refine (OF _ _ _ (fun i h => cell_of_heap (by (repeat' (with_reducible (first | apply heap_old | apply heap_drew))); exact HG.out) (by simp [h])) (cell_of_heap (by (repeat' (with_reducible (first | apply heap_old | apply heap_drew))); exact HC.out) (by simpa using HCD.out))).mono ?_; rintro e w' ⟨rfl, rfl⟩)) | fail)
  all_goals (go_wp2_with fail; go_ret2; exact ⟨_, rfl, OwnB.lit [c0, 131, c2, c3] (heap_at (by simp) rfl) (by simp [byteVal, HW1.out, wrap_c, HC2.out, HW3.out, HC3.out]) (by have := hW.size; (try simp); omega) (by simp [maxLen]), (by (repeat' (with_reducible (first | apply Fr.alloc | apply Fr.drew | exact hW))))⟩)
set_option maxRecDepth 100000 in
set_option maxHeartbeats 4000000 in
theorem enc_15 (a b alu cc imm d : Int) (hok : okB ⟨15, a, b, alu, cc, imm, d⟩ = true) (k : Nat) (hk : idxL (groupOps 15) alu = k) (cd : Int) (hk7 : k < 2) (hcd : (groupCodes 15)[k]? = some cd) (hcd0 : 0 ≤ cd) (hcd1 : cd < 249) (ha0 : 0 ≤ a) (ha1 : a ≤ 15) (hb0 : 0 ≤ b) (hb1 : b ≤ 15) (w : World) :
    Calls Try.prog 10 #[.agg #[.int .i64 15, .int .i64 a, .int .i64 b, .int .i64 alu, .int .i64 cc, .int .u64 imm, .int .i64 d]] w fun e w' => ∃ sv, e = .returned (.tuple #[sv, .bool true]) ∧ OwnB w.heap.size w' sv ([ub (rexI 0 b), 255, ub (cd + b % 8)]) ∧ Fr [] w w' := by
  have OKC : ∀ W, Calls Try.prog 13 #[.agg #[.int .i64 15, .int .i64 a, .int .i64 b, .int .i64 alu, .int .i64 cc, .int .u64 imm, .int .i64 d]] W fun e w' => e = .returned (.bool true) ∧ Fr [] W w' := fun W => by
    have := ok_any ⟨15, a, b, alu, cc, imm, d⟩ W
    rw [hok] at this
    exact this
  clear hok
  obtain ⟨c0, hc0⟩ : ∃ c0, ub (rexI 0 b) = c0 := ⟨_, rfl⟩
  have HC0 : Hid (rexI 0 b = (c0.toNat : Int)) := Lib.hid (by rw [← hc0, ub_id (rexI_bd 0 b).1 (rexI_bd 0 b).2])
  rw [hc0]
  clear hc0
  have RX : ∀ W, Calls Try.prog 19 #[.int .i64 0, .int .i64 b] W fun e w' => e = .returned (.int .u8 (c0.toNat : Int)) ∧ W = w' := fun W => by
    rw [← HC0.out]; exact rex_any 0 b W
  have ea := and7 a ha0 ha1
  obtain ⟨p, hp⟩ : ∃ p, a % 8 = p := ⟨_, rfl⟩
  rw [hp] at ea
  have p0 : 0 ≤ p := by omega
  have p1 : p ≤ 7 := by omega
  clear hp ha0 ha1
  have eb := and7 b hb0 hb1
  obtain ⟨q, hq⟩ : ∃ q, b % 8 = q := ⟨_, rfl⟩
  rw [hq] at eb
  rw [hq]
  have q0 : 0 ≤ q := by omega
  have q1 : q ≤ 7 := by omega
  clear hq hb0 hb1
  obtain ⟨c2, hc2⟩ : ∃ c2, ub (cd + q) = c2 := ⟨_, rfl⟩
  have HC2 : Hid (cd + q = (c2.toNat : Int)) := Lib.hid (by rw [← hc2, ub_id (by omega) (by omega)])
  rw [hc2]
  clear hc2
  have OF : ∀ W g gc, IntCells W g (groupOps 15) → W.cell? ⟨gc, k, none⟩ = some (.int .u8 cd) → Calls Try.prog 21 #[.slice (some ⟨g, 0, none⟩) (groupOps 15).length (groupOps 15).length, .slice (some ⟨gc, 0, none⟩) (groupCodes 15).length (groupCodes 15).length, .int .i64 alu] W fun e w' => e = .returned (.int .u8 cd) ∧ W = w' := fun W g gc h1 h2 =>
    of_any W g gc (groupOps 15) (by decide) alu h1 k hk (groupCodes 15).length hk7 _ h2
  have HCD : Hid (((groupCodes 15).map fun x => Value.int .u8 x)[k]? = some (.int .u8 cd)) := Lib.hid (by simp [hcd])
  clear hk hcd
  have HW1 : Hid (IntKind.u8.wrap (q) = q) := Lib.hid (by rw [wrap_u8m]; try omega)
  go_enter Try.func10, Try.ntmps10
  go_upto_region 4 with (first | (go_at_call 13; refine (OKC _).mono ?_; rintro e W1 ⟨rfl, hf1⟩; obtain ⟨x0, x1, x2, x3, x4, x5, x6, xf⟩ := cells7 (hf1.heap (heap_new _ _) (by simp))) | (go_at_call 17; refine (group_any _ _).mono ?_; rintro e w' ⟨rfl, rfl⟩))
  refine wp_world (fun W => Fr [] w W ∧ W.heap[w.heap.size]? = some (.cells #[.int .i64 15, .int .i64 a, .int .i64 b, .int .i64 alu, .int .i64 cc, .int .u64 imm, .int .i64 d] 24 (0, 0)) ∧ W.heap[W1.heap.size]? = some (intRow (groupOps 15)) ∧ W.heap[W1.heap.size + 1]? = some (u8Row (groupCodes 15)))
    ⟨((((Fr.refl [] w).alloc _).then0 hf1).alloc _).alloc _, heap_old _ (heap_old _ (hf1.heap (heap_new _ _) (by simp))), heap_old _ (heap_new _ _), heap_at (by simp) rfl⟩ ?_
  clear x0 x1 x2 x3 x4 x5 x6 xf
  rintro W ⟨hW, hB, hG, hC⟩
  obtain ⟨x0, x1, x2, x3, x4, x5, x6, xf⟩ := cells7 hB
  have hlt : w.heap.size < W.heap.size := lt_of_heap hB
  have HB := Lib.hid hB
  have HG := Lib.hid hG
  have HC := Lib.hid hC
  clear hB hG hC xf hf1 OKC
  go_wp2_with fail
  (first | go_region_held3 (fun w' => w'.cell? ⟨w.heap.size, 0, none⟩ = some (.int .i64 15) ∧ w'.cell? ⟨w.heap.size, 1, none⟩ = some (.int .i64 a) ∧ w'.cell? ⟨w.heap.size, 2, none⟩ = some (.int .i64 b) ∧ w'.cell? ⟨w.heap.size, 3, none⟩ = some (.int .i64 alu) ∧ w'.cell? ⟨w.heap.size, 4, none⟩ = some (.int .i64 cc) ∧ w'.cell? ⟨w.heap.size, 5, none⟩ = some (.int .u64 imm) ∧ w'.cell? ⟨w.heap.size, 6, none⟩ = some (.int .i64 d)) (first | exact cells7' (t := 24) (by (repeat' (with_reducible (first | apply heap_old | apply heap_drew))); exact HB.out)) (first | (go_at_call 19; refine (RX _).mono ?_; rintro e w' ⟨rfl, rfl⟩) | (go_at_call 21; refine (OF _ _ _ (fun i h => cell_of_heap (by (repeat' (with_reducible (first | apply heap_old | apply heap_drew))); exact HG.out) (by simp [h])) (cell_of_heap (by (repeat' (with_reducible (first | apply heap_old | apply heap_drew))); exact HC.out) (by simpa using HCD.out))).mono ?_; rintro e w' ⟨rfl, rfl⟩)) | fail)
  all_goals (go_wp2_with fail; go_ret2; exact ⟨_, rfl, OwnB.lit [c0, 255, c2] (heap_at (by simp) rfl) (by simp [byteVal, HW1.out, wrap_c, HC2.out]) (by have := hW.size; (try simp); omega) (by simp [maxLen]), (by (repeat' (with_reducible (first | apply Fr.alloc | apply Fr.drew | exact hW))))⟩)
set_option maxRecDepth 100000 in
set_option maxHeartbeats 4000000 in
theorem enc_16 (a b alu cc imm d : Int) (hok : okB ⟨16, a, b, alu, cc, imm, d⟩ = true) (k : Nat) (hk : idxL (groupOps 16) alu = k) (cd : Int) (hk7 : k < 2) (hcd : (groupCodes 16)[k]? = some cd) (hcd0 : 0 ≤ cd) (hcd1 : cd < 249) (ha0 : 0 ≤ a) (ha1 : a ≤ 15) (hb0 : 0 ≤ b) (hb1 : b ≤ 15) (hi0 : 0 ≤ imm) (hi1 : imm ≤ 255) (w : World) :
    Calls Try.prog 10 #[.agg #[.int .i64 16, .int .i64 a, .int .i64 b, .int .i64 alu, .int .i64 cc, .int .u64 imm, .int .i64 d]] w fun e w' => ∃ sv, e = .returned (.tuple #[sv, .bool true]) ∧ OwnB w.heap.size w' sv ([ub (rexI 0 b), 193, ub (cd + b % 8), ub imm]) ∧ Fr [] w w' := by
  have OKC : ∀ W, Calls Try.prog 13 #[.agg #[.int .i64 16, .int .i64 a, .int .i64 b, .int .i64 alu, .int .i64 cc, .int .u64 imm, .int .i64 d]] W fun e w' => e = .returned (.bool true) ∧ Fr [] W w' := fun W => by
    have := ok_any ⟨16, a, b, alu, cc, imm, d⟩ W
    rw [hok] at this
    exact this
  clear hok
  obtain ⟨c0, hc0⟩ : ∃ c0, ub (rexI 0 b) = c0 := ⟨_, rfl⟩
  have HC0 : Hid (rexI 0 b = (c0.toNat : Int)) := Lib.hid (by rw [← hc0, ub_id (rexI_bd 0 b).1 (rexI_bd 0 b).2])
  rw [hc0]
  clear hc0
  have RX : ∀ W, Calls Try.prog 19 #[.int .i64 0, .int .i64 b] W fun e w' => e = .returned (.int .u8 (c0.toNat : Int)) ∧ W = w' := fun W => by
    rw [← HC0.out]; exact rex_any 0 b W
  have ea := and7 a ha0 ha1
  obtain ⟨p, hp⟩ : ∃ p, a % 8 = p := ⟨_, rfl⟩
  rw [hp] at ea
  have p0 : 0 ≤ p := by omega
  have p1 : p ≤ 7 := by omega
  clear hp ha0 ha1
  have eb := and7 b hb0 hb1
  obtain ⟨q, hq⟩ : ∃ q, b % 8 = q := ⟨_, rfl⟩
  rw [hq] at eb
  rw [hq]
  have q0 : 0 ≤ q := by omega
  have q1 : q ≤ 7 := by omega
  clear hq hb0 hb1
  obtain ⟨c2, hc2⟩ : ∃ c2, ub (cd + q) = c2 := ⟨_, rfl⟩
  have HC2 : Hid (cd + q = (c2.toNat : Int)) := Lib.hid (by rw [← hc2, ub_id (by omega) (by omega)])
  rw [hc2]
  clear hc2
  obtain ⟨c3, hc3⟩ : ∃ c3, ub (imm) = c3 := ⟨_, rfl⟩
  have HC3 : Hid (imm = (c3.toNat : Int)) := Lib.hid (by rw [← hc3, ub_id (by omega) (by omega)])
  rw [hc3]
  clear hc3
  have OF : ∀ W g gc, IntCells W g (groupOps 16) → W.cell? ⟨gc, k, none⟩ = some (.int .u8 cd) → Calls Try.prog 21 #[.slice (some ⟨g, 0, none⟩) (groupOps 16).length (groupOps 16).length, .slice (some ⟨gc, 0, none⟩) (groupCodes 16).length (groupCodes 16).length, .int .i64 alu] W fun e w' => e = .returned (.int .u8 cd) ∧ W = w' := fun W g gc h1 h2 =>
    of_any W g gc (groupOps 16) (by decide) alu h1 k hk (groupCodes 16).length hk7 _ h2
  have HCD : Hid (((groupCodes 16).map fun x => Value.int .u8 x)[k]? = some (.int .u8 cd)) := Lib.hid (by simp [hcd])
  clear hk hcd
  have HW1 : Hid (IntKind.u8.wrap (q) = q) := Lib.hid (by rw [wrap_u8m]; try omega)
  go_enter Try.func10, Try.ntmps10
  go_upto_region 4 with (first | (go_at_call 13; refine (OKC _).mono ?_; rintro e W1 ⟨rfl, hf1⟩; obtain ⟨x0, x1, x2, x3, x4, x5, x6, xf⟩ := cells7 (hf1.heap (heap_new _ _) (by simp))) | (go_at_call 17; refine (group_any _ _).mono ?_; rintro e w' ⟨rfl, rfl⟩))
  refine wp_world (fun W => Fr [] w W ∧ W.heap[w.heap.size]? = some (.cells #[.int .i64 16, .int .i64 a, .int .i64 b, .int .i64 alu, .int .i64 cc, .int .u64 imm, .int .i64 d] 24 (0, 0)) ∧ W.heap[W1.heap.size]? = some (intRow (groupOps 16)) ∧ W.heap[W1.heap.size + 1]? = some (u8Row (groupCodes 16)))
    ⟨((((Fr.refl [] w).alloc _).then0 hf1).alloc _).alloc _, heap_old _ (heap_old _ (hf1.heap (heap_new _ _) (by simp))), heap_old _ (heap_new _ _), heap_at (by simp) rfl⟩ ?_
  clear x0 x1 x2 x3 x4 x5 x6 xf
  rintro W ⟨hW, hB, hG, hC⟩
  obtain ⟨x0, x1, x2, x3, x4, x5, x6, xf⟩ := cells7 hB
  have hlt : w.heap.size < W.heap.size := lt_of_heap hB
  have HB := Lib.hid hB
  have HG := Lib.hid hG
  have HC := Lib.hid hC
  clear hB hG hC xf hf1 OKC
  go_wp2_with fail
  (first | go_region_held3 (fun w' => w'.cell? ⟨w.heap.size, 0, none⟩ = some (.int .i64 16) ∧ w'.cell? ⟨w.heap.size, 1, none⟩ = some (.int .i64 a) ∧ w'.cell? ⟨w.heap.size, 2, none⟩ = some (.int .i64 b) ∧ w'.cell? ⟨w.heap.size, 3, none⟩ = some (.int .i64 alu) ∧ w'.cell? ⟨w.heap.size, 4, none⟩ = some (.int .i64 cc) ∧ w'.cell? ⟨w.heap.size, 5, none⟩ = some (.int .u64 imm) ∧ w'.cell? ⟨w.heap.size, 6, none⟩ = some (.int .i64 d)) (first | exact cells7' (t := 24) (by (repeat' (with_reducible (first | apply heap_old | apply heap_drew))); exact HB.out)) (first | (go_at_call 19; refine (RX _).mono ?_; rintro e w' ⟨rfl, rfl⟩) | (go_at_call 21; refine (OF _ _ _ (fun i h => cell_of_heap (by (repeat' (with_reducible (first | apply heap_old | apply heap_drew))); exact HG.out) (by simp [h])) (cell_of_heap (by (repeat' (with_reducible (first | apply heap_old | apply heap_drew))); exact HC.out) (by simpa using HCD.out))).mono ?_; rintro e w' ⟨rfl, rfl⟩)) | fail)
  all_goals (go_wp2_with fail; go_ret2; exact ⟨_, rfl, OwnB.lit [c0, 193, c2, c3] (heap_at (by simp) rfl) (by simp [byteVal, HW1.out, wrap_c, HC2.out, HC3.out]) (by have := hW.size; (try simp); omega) (by simp [maxLen]), (by (repeat' (with_reducible (first | apply Fr.alloc | apply Fr.drew | exact hW))))⟩)
set_option maxRecDepth 100000 in
set_option maxHeartbeats 4000000 in
theorem enc_7 (a b alu cc imm d : Int) (hok : okB ⟨7, a, b, alu, cc, imm, d⟩ = true) (k : Nat) (hk : idxL aluAll alu = k) (cd : Int) (hk7 : k < 7) (hcd : aluCodes[k]? = some cd) (hcd0 : 0 ≤ cd) (hcd1 : cd < 256) (ha0 : 0 ≤ a) (ha1 : a ≤ 15) (hb0 : 0 ≤ b) (hb1 : b ≤ 15) (w : World) :
    Calls Try.prog 10 #[.agg #[.int .i64 7, .int .i64 a, .int .i64 b, .int .i64 alu, .int .i64 cc, .int .u64 imm, .int .i64 d]] w fun e w' => ∃ sv, e = .returned (.tuple #[sv, .bool true]) ∧ OwnB w.heap.size w' sv ([ub (rexI a b), ub cd, ub (192 + 8 * (a % 8) + b % 8)]) ∧ Fr [] w w' := by
  have OKC : ∀ W, Calls Try.prog 13 #[.agg #[.int .i64 7, .int .i64 a, .int .i64 b, .int .i64 alu, .int .i64 cc, .int .u64 imm, .int .i64 d]] W fun e w' => e = .returned (.bool true) ∧ Fr [] W w' := fun W => by
    have := ok_any ⟨7, a, b, alu, cc, imm, d⟩ W
    rw [hok] at this
    exact this
  clear hok
  have CD : ∀ W, Calls Try.prog 22 #[.agg #[.int .i64 7, .int .i64 a, .int .i64 b, .int .i64 alu, .int .i64 cc, .int .u64 imm, .int .i64 d]] W fun e w' => ∃ sv, e = .returned sv ∧ OwnB W.heap.size w' sv ([ub (rexI a b), ub cd, ub (192 + 8 * (a % 8) + b % 8)]) ∧ Fr [] W w' := fun W => code_7 a b alu cc imm d k hk cd hk7 hcd hcd0 hcd1 ha0 ha1 hb0 hb1 W
  obtain ⟨R, hR⟩ : ∃ R, [ub (rexI a b), ub cd, ub (192 + 8 * (a % 8) + b % 8)] = R := ⟨_, rfl⟩
  rw [hR] at CD ⊢
  clear hR
  clear hk hk7 hcd hcd0 hcd1
  have ea := and7 a ha0 ha1
  obtain ⟨p, hp⟩ : ∃ p, a % 8 = p := ⟨_, rfl⟩
  rw [hp] at ea
  have p0 : 0 ≤ p := by omega
  have p1 : p ≤ 7 := by omega
  clear hp ha0 ha1
  go_enter Try.func10, Try.ntmps10
  go_upto_region 4 with (first | (go_at_call 13; refine (OKC _).mono ?_; rintro e W1 ⟨rfl, hf1⟩; obtain ⟨x0, x1, x2, x3, x4, x5, x6, xf⟩ := cells7 (hf1.heap (heap_new _ _) (by simp))) | (go_at_call 17; refine (group_any _ _).mono ?_; rintro e w' ⟨rfl, rfl⟩))
  refine wp_world (fun W => Fr [] w W ∧ W.heap[w.heap.size]? = some (.cells #[.int .i64 7, .int .i64 a, .int .i64 b, .int .i64 alu, .int .i64 cc, .int .u64 imm, .int .i64 d] 24 (0, 0)) ∧ W.heap[W1.heap.size]? = some (intRow (groupOps 7)) ∧ W.heap[W1.heap.size + 1]? = some (u8Row (groupCodes 7)))
    ⟨((((Fr.refl [] w).alloc _).then0 hf1).alloc _).alloc _, heap_old _ (heap_old _ (hf1.heap (heap_new _ _) (by simp))), heap_old _ (heap_new _ _), heap_at (by simp) rfl⟩ ?_
  clear x0 x1 x2 x3 x4 x5 x6 xf
  rintro W ⟨hW, hB, hG, hC⟩
  obtain ⟨x0, x1, x2, x3, x4, x5, x6, xf⟩ := cells7 hB
  have hlt : w.heap.size < W.heap.size := lt_of_heap hB
  have HB := Lib.hid hB
  have HG := Lib.hid hG
  have HC := Lib.hid hC
  clear hB hG hC xf hf1 OKC
  go_wp2_with (go_at_call 22; refine (CD _).mono ?_; rintro e W2 ⟨sv, rfl, hown, hf2⟩)
  go_ret2; exact ⟨_, rfl, hown.mono hW.size, hW.then0 hf2⟩
set_option maxRecDepth 100000 in
set_option maxHeartbeats 4000000 in
theorem enc_8 (a b alu cc imm d : Int) (hok : okB ⟨8, a, b, alu, cc, imm, d⟩ = true) (ha0 : 0 ≤ a) (ha1 : a ≤ 15) (hb0 : 0 ≤ b) (hb1 : b ≤ 15) (w : World) :
    Calls Try.prog 10 #[.agg #[.int .i64 8, .int .i64 a, .int .i64 b, .int .i64 alu, .int .i64 cc, .int .u64 imm, .int .i64 d]] w fun e w' => ∃ sv, e = .returned (.tuple #[sv, .bool true]) ∧ OwnB w.heap.size w' sv ([ub (rexI a b), 137, ub (192 + 8 * (a % 8) + b % 8)]) ∧ Fr [] w w' := by
  have OKC : ∀ W, Calls Try.prog 13 #[.agg #[.int .i64 8, .int .i64 a, .int .i64 b, .int .i64 alu, .int .i64 cc, .int .u64 imm, .int .i64 d]] W fun e w' => e = .returned (.bool true) ∧ Fr [] W w' := fun W => by
    have := ok_any ⟨8, a, b, alu, cc, imm, d⟩ W
    rw [hok] at this
    exact this
  clear hok
  have CD : ∀ W, Calls Try.prog 22 #[.agg #[.int .i64 8, .int .i64 a, .int .i64 b, .int .i64 alu, .int .i64 cc, .int .u64 imm, .int .i64 d]] W fun e w' => ∃ sv, e = .returned sv ∧ OwnB W.heap.size w' sv ([ub (rexI a b), 137, ub (192 + 8 * (a % 8) + b % 8)]) ∧ Fr [] W w' := fun W => code_8 a b alu cc imm d ha0 ha1 hb0 hb1 W
  obtain ⟨R, hR⟩ : ∃ R, [ub (rexI a b), 137, ub (192 + 8 * (a % 8) + b % 8)] = R := ⟨_, rfl⟩
  rw [hR] at CD ⊢
  clear hR
  have ea := and7 a ha0 ha1
  obtain ⟨p, hp⟩ : ∃ p, a % 8 = p := ⟨_, rfl⟩
  rw [hp] at ea
  have p0 : 0 ≤ p := by omega
  have p1 : p ≤ 7 := by omega
  clear hp ha0 ha1
  go_enter Try.func10, Try.ntmps10
  go_upto_region 4 with (first | (go_at_call 13; refine (OKC _).mono ?_; rintro e W1 ⟨rfl, hf1⟩; obtain ⟨x0, x1, x2, x3, x4, x5, x6, xf⟩ := cells7 (hf1.heap (heap_new _ _) (by simp))) | (go_at_call 17; refine (group_any _ _).mono ?_; rintro e w' ⟨rfl, rfl⟩))
  refine wp_world (fun W => Fr [] w W ∧ W.heap[w.heap.size]? = some (.cells #[.int .i64 8, .int .i64 a, .int .i64 b, .int .i64 alu, .int .i64 cc, .int .u64 imm, .int .i64 d] 24 (0, 0)) ∧ W.heap[W1.heap.size]? = some (intRow (groupOps 8)) ∧ W.heap[W1.heap.size + 1]? = some (u8Row (groupCodes 8)))
    ⟨((((Fr.refl [] w).alloc _).then0 hf1).alloc _).alloc _, heap_old _ (heap_old _ (hf1.heap (heap_new _ _) (by simp))), heap_old _ (heap_new _ _), heap_at (by simp) rfl⟩ ?_
  clear x0 x1 x2 x3 x4 x5 x6 xf
  rintro W ⟨hW, hB, hG, hC⟩
  obtain ⟨x0, x1, x2, x3, x4, x5, x6, xf⟩ := cells7 hB
  have hlt : w.heap.size < W.heap.size := lt_of_heap hB
  have HB := Lib.hid hB
  have HG := Lib.hid hG
  have HC := Lib.hid hC
  clear hB hG hC xf hf1 OKC
  go_wp2_with (go_at_call 22; refine (CD _).mono ?_; rintro e W2 ⟨sv, rfl, hown, hf2⟩)
  go_ret2; exact ⟨_, rfl, hown.mono hW.size, hW.then0 hf2⟩
set_option maxRecDepth 100000 in
set_option maxHeartbeats 4000000 in
theorem enc_9 (a b alu cc imm d : Int) (hok : okB ⟨9, a, b, alu, cc, imm, d⟩ = true) (ha0 : 0 ≤ a) (ha1 : a ≤ 15) (hb0 : 0 ≤ b) (hb1 : b ≤ 15) (w : World) :
    Calls Try.prog 10 #[.agg #[.int .i64 9, .int .i64 a, .int .i64 b, .int .i64 alu, .int .i64 cc, .int .u64 imm, .int .i64 d]] w fun e w' => ∃ sv, e = .returned (.tuple #[sv, .bool true]) ∧ OwnB w.heap.size w' sv ([ub (rexI a b), 139, ub (128 + 8 * (a % 8) + b % 8)] ++ leB d 4) ∧ Fr [] w w' := by
  have OKC : ∀ W, Calls Try.prog 13 #[.agg #[.int .i64 9, .int .i64 a, .int .i64 b, .int .i64 alu, .int .i64 cc, .int .u64 imm, .int .i64 d]] W fun e w' => e = .returned (.bool true) ∧ Fr [] W w' := fun W => by
    have := ok_any ⟨9, a, b, alu, cc, imm, d⟩ W
    rw [hok] at this
    exact this
  clear hok
  have CD : ∀ W, Calls Try.prog 22 #[.agg #[.int .i64 9, .int .i64 a, .int .i64 b, .int .i64 alu, .int .i64 cc, .int .u64 imm, .int .i64 d]] W fun e w' => ∃ sv, e = .returned sv ∧ OwnB W.heap.size w' sv ([ub (rexI a b), 139, ub (128 + 8 * (a % 8) + b % 8)] ++ leB d 4) ∧ Fr [] W w' := fun W => code_9 a b alu cc imm d ha0 ha1 hb0 hb1 W
  obtain ⟨R, hR⟩ : ∃ R, [ub (rexI a b), 139, ub (128 + 8 * (a % 8) + b % 8)] ++ leB d 4 = R := ⟨_, rfl⟩
  rw [hR] at CD ⊢
  clear hR
  have ea := and7 a ha0 ha1
  obtain ⟨p, hp⟩ : ∃ p, a % 8 = p := ⟨_, rfl⟩
  rw [hp] at ea
  have p0 : 0 ≤ p := by omega
  have p1 : p ≤ 7 := by omega
  clear hp ha0 ha1
  go_enter Try.func10, Try.ntmps10
  go_upto_region 4 with (first | (go_at_call 13; refine (OKC _).mono ?_; rintro e W1 ⟨rfl, hf1⟩; obtain ⟨x0, x1, x2, x3, x4, x5, x6, xf⟩ := cells7 (hf1.heap (heap_new _ _) (by simp))) | (go_at_call 17; refine (group_any _ _).mono ?_; rintro e w' ⟨rfl, rfl⟩))
  refine wp_world (fun W => Fr [] w W ∧ W.heap[w.heap.size]? = some (.cells #[.int .i64 9, .int .i64 a, .int .i64 b, .int .i64 alu, .int .i64 cc, .int .u64 imm, .int .i64 d] 24 (0, 0)) ∧ W.heap[W1.heap.size]? = some (intRow (groupOps 9)) ∧ W.heap[W1.heap.size + 1]? = some (u8Row (groupCodes 9)))
    ⟨((((Fr.refl [] w).alloc _).then0 hf1).alloc _).alloc _, heap_old _ (heap_old _ (hf1.heap (heap_new _ _) (by simp))), heap_old _ (heap_new _ _), heap_at (by simp) rfl⟩ ?_
  clear x0 x1 x2 x3 x4 x5 x6 xf
  rintro W ⟨hW, hB, hG, hC⟩
  obtain ⟨x0, x1, x2, x3, x4, x5, x6, xf⟩ := cells7 hB
  have hlt : w.heap.size < W.heap.size := lt_of_heap hB
  have HB := Lib.hid hB
  have HG := Lib.hid hG
  have HC := Lib.hid hC
  clear hB hG hC xf hf1 OKC
  go_wp2_with (go_at_call 22; refine (CD _).mono ?_; rintro e W2 ⟨sv, rfl, hown, hf2⟩)
  go_ret2; exact ⟨_, rfl, hown.mono hW.size, hW.then0 hf2⟩
set_option maxRecDepth 100000 in
set_option maxHeartbeats 4000000 in
theorem enc_10 (a b alu cc imm d : Int) (hok : okB ⟨10, a, b, alu, cc, imm, d⟩ = true) (ha0 : 0 ≤ a) (ha1 : a ≤ 15) (hb0 : 0 ≤ b) (hb1 : b ≤ 15) (w : World) :
    Calls Try.prog 10 #[.agg #[.int .i64 10, .int .i64 a, .int .i64 b, .int .i64 alu, .int .i64 cc, .int .u64 imm, .int .i64 d]] w fun e w' => ∃ sv, e = .returned (.tuple #[sv, .bool true]) ∧ OwnB w.heap.size w' sv ([ub (rexI a b), 137, ub (128 + 8 * (a % 8) + b % 8)] ++ leB d 4) ∧ Fr [] w w' := by
  have OKC : ∀ W, Calls Try.prog 13 #[.agg #[.int .i64 10, .int .i64 a, .int .i64 b, .int .i64 alu, .int .i64 cc, .int .u64 imm, .int .i64 d]] W fun e w' => e = .returned (.bool true) ∧ Fr [] W w' := fun W => by
    have := ok_any ⟨10, a, b, alu, cc, imm, d⟩ W
    rw [hok] at this
    exact this
  clear hok
  have CD : ∀ W, Calls Try.prog 22 #[.agg #[.int .i64 10, .int .i64 a, .int .i64 b, .int .i64 alu, .int .i64 cc, .int .u64 imm, .int .i64 d]] W fun e w' => ∃ sv, e = .returned sv ∧ OwnB W.heap.size w' sv ([ub (rexI a b), 137, ub (128 + 8 * (a % 8) + b % 8)] ++ leB d 4) ∧ Fr [] W w' := fun W => code_10 a b alu cc imm d ha0 ha1 hb0 hb1 W
  obtain ⟨R, hR⟩ : ∃ R, [ub (rexI a b), 137, ub (128 + 8 * (a % 8) + b % 8)] ++ leB d 4 = R := ⟨_, rfl⟩
  rw [hR] at CD ⊢
  clear hR
  have ea := and7 a ha0 ha1
  obtain ⟨p, hp⟩ : ∃ p, a % 8 = p := ⟨_, rfl⟩
  rw [hp] at ea
  have p0 : 0 ≤ p := by omega
  have p1 : p ≤ 7 := by omega
  clear hp ha0 ha1
  go_enter Try.func10, Try.ntmps10
  go_upto_region 4 with (first | (go_at_call 13; refine (OKC _).mono ?_; rintro e W1 ⟨rfl, hf1⟩; obtain ⟨x0, x1, x2, x3, x4, x5, x6, xf⟩ := cells7 (hf1.heap (heap_new _ _) (by simp))) | (go_at_call 17; refine (group_any _ _).mono ?_; rintro e w' ⟨rfl, rfl⟩))
  refine wp_world (fun W => Fr [] w W ∧ W.heap[w.heap.size]? = some (.cells #[.int .i64 10, .int .i64 a, .int .i64 b, .int .i64 alu, .int .i64 cc, .int .u64 imm, .int .i64 d] 24 (0, 0)) ∧ W.heap[W1.heap.size]? = some (intRow (groupOps 10)) ∧ W.heap[W1.heap.size + 1]? = some (u8Row (groupCodes 10)))
    ⟨((((Fr.refl [] w).alloc _).then0 hf1).alloc _).alloc _, heap_old _ (heap_old _ (hf1.heap (heap_new _ _) (by simp))), heap_old _ (heap_new _ _), heap_at (by simp) rfl⟩ ?_
  clear x0 x1 x2 x3 x4 x5 x6 xf
  rintro W ⟨hW, hB, hG, hC⟩
  obtain ⟨x0, x1, x2, x3, x4, x5, x6, xf⟩ := cells7 hB
  have hlt : w.heap.size < W.heap.size := lt_of_heap hB
  have HB := Lib.hid hB
  have HG := Lib.hid hG
  have HC := Lib.hid hC
  clear hB hG hC xf hf1 OKC
  go_wp2_with (go_at_call 22; refine (CD _).mono ?_; rintro e W2 ⟨sv, rfl, hown, hf2⟩)
  go_ret2; exact ⟨_, rfl, hown.mono hW.size, hW.then0 hf2⟩
set_option maxRecDepth 100000 in
set_option maxHeartbeats 4000000 in
theorem enc_11 (a b alu cc imm d : Int) (hok : okB ⟨11, a, b, alu, cc, imm, d⟩ = true) (ha0 : 0 ≤ a) (ha1 : a ≤ 15) (w : World) :
    Calls Try.prog 10 #[.agg #[.int .i64 11, .int .i64 a, .int .i64 b, .int .i64 alu, .int .i64 cc, .int .u64 imm, .int .i64 d]] w fun e w' => ∃ sv, e = .returned (.tuple #[sv, .bool true]) ∧ OwnB w.heap.size w' sv ([ub (rexI a 0), 139, ub (0 + 8 * (a % 8) + 5 % 8)] ++ leB d 4) ∧ Fr [] w w' := by
  have OKC : ∀ W, Calls Try.prog 13 #[.agg #[.int .i64 11, .int .i64 a, .int .i64 b, .int .i64 alu, .int .i64 cc, .int .u64 imm, .int .i64 d]] W fun e w' => e = .returned (.bool true) ∧ Fr [] W w' := fun W => by
    have := ok_any ⟨11, a, b, alu, cc, imm, d⟩ W
    rw [hok] at this
    exact this
  clear hok
  have CD : ∀ W, Calls Try.prog 22 #[.agg #[.int .i64 11, .int .i64 a, .int .i64 b, .int .i64 alu, .int .i64 cc, .int .u64 imm, .int .i64 d]] W fun e w' => ∃ sv, e = .returned sv ∧ OwnB W.heap.size w' sv ([ub (rexI a 0), 139, ub (0 + 8 * (a % 8) + 5 % 8)] ++ leB d 4) ∧ Fr [] W w' := fun W => code_11 a b alu cc imm d ha0 ha1 W
  obtain ⟨R, hR⟩ : ∃ R, [ub (rexI a 0), 139, ub (0 + 8 * (a % 8) + 5 % 8)] ++ leB d 4 = R := ⟨_, rfl⟩
  rw [hR] at CD ⊢
  clear hR
  have ea := and7 a ha0 ha1
  obtain ⟨p, hp⟩ : ∃ p, a % 8 = p := ⟨_, rfl⟩
  rw [hp] at ea
  have p0 : 0 ≤ p := by omega
  have p1 : p ≤ 7 := by omega
  clear hp ha0 ha1
  go_enter Try.func10, Try.ntmps10
  go_upto_region 4 with (first | (go_at_call 13; refine (OKC _).mono ?_; rintro e W1 ⟨rfl, hf1⟩; obtain ⟨x0, x1, x2, x3, x4, x5, x6, xf⟩ := cells7 (hf1.heap (heap_new _ _) (by simp))) | (go_at_call 17; refine (group_any _ _).mono ?_; rintro e w' ⟨rfl, rfl⟩))
  refine wp_world (fun W => Fr [] w W ∧ W.heap[w.heap.size]? = some (.cells #[.int .i64 11, .int .i64 a, .int .i64 b, .int .i64 alu, .int .i64 cc, .int .u64 imm, .int .i64 d] 24 (0, 0)) ∧ W.heap[W1.heap.size]? = some (intRow (groupOps 11)) ∧ W.heap[W1.heap.size + 1]? = some (u8Row (groupCodes 11)))
    ⟨((((Fr.refl [] w).alloc _).then0 hf1).alloc _).alloc _, heap_old _ (heap_old _ (hf1.heap (heap_new _ _) (by simp))), heap_old _ (heap_new _ _), heap_at (by simp) rfl⟩ ?_
  clear x0 x1 x2 x3 x4 x5 x6 xf
  rintro W ⟨hW, hB, hG, hC⟩
  obtain ⟨x0, x1, x2, x3, x4, x5, x6, xf⟩ := cells7 hB
  have hlt : w.heap.size < W.heap.size := lt_of_heap hB
  have HB := Lib.hid hB
  have HG := Lib.hid hG
  have HC := Lib.hid hC
  clear hB hG hC xf hf1 OKC
  go_wp2_with (go_at_call 22; refine (CD _).mono ?_; rintro e W2 ⟨sv, rfl, hown, hf2⟩)
  go_ret2; exact ⟨_, rfl, hown.mono hW.size, hW.then0 hf2⟩
set_option maxRecDepth 100000 in
set_option maxHeartbeats 4000000 in
theorem enc_12 (a b alu cc imm d : Int) (hok : okB ⟨12, a, b, alu, cc, imm, d⟩ = true) (ha0 : 0 ≤ a) (ha1 : a ≤ 15) (w : World) :
    Calls Try.prog 10 #[.agg #[.int .i64 12, .int .i64 a, .int .i64 b, .int .i64 alu, .int .i64 cc, .int .u64 imm, .int .i64 d]] w fun e w' => ∃ sv, e = .returned (.tuple #[sv, .bool true]) ∧ OwnB w.heap.size w' sv ([ub (rexI a 0), 137, ub (0 + 8 * (a % 8) + 5 % 8)] ++ leB d 4) ∧ Fr [] w w' := by
  have OKC : ∀ W, Calls Try.prog 13 #[.agg #[.int .i64 12, .int .i64 a, .int .i64 b, .int .i64 alu, .int .i64 cc, .int .u64 imm, .int .i64 d]] W fun e w' => e = .returned (.bool true) ∧ Fr [] W w' := fun W => by
    have := ok_any ⟨12, a, b, alu, cc, imm, d⟩ W
    rw [hok] at this
    exact this
  clear hok
  have CD : ∀ W, Calls Try.prog 22 #[.agg #[.int .i64 12, .int .i64 a, .int .i64 b, .int .i64 alu, .int .i64 cc, .int .u64 imm, .int .i64 d]] W fun e w' => ∃ sv, e = .returned sv ∧ OwnB W.heap.size w' sv ([ub (rexI a 0), 137, ub (0 + 8 * (a % 8) + 5 % 8)] ++ leB d 4) ∧ Fr [] W w' := fun W => code_12 a b alu cc imm d ha0 ha1 W
  obtain ⟨R, hR⟩ : ∃ R, [ub (rexI a 0), 137, ub (0 + 8 * (a % 8) + 5 % 8)] ++ leB d 4 = R := ⟨_, rfl⟩
  rw [hR] at CD ⊢
  clear hR
  have ea := and7 a ha0 ha1
  obtain ⟨p, hp⟩ : ∃ p, a % 8 = p := ⟨_, rfl⟩
  rw [hp] at ea
  have p0 : 0 ≤ p := by omega
  have p1 : p ≤ 7 := by omega
  clear hp ha0 ha1
  go_enter Try.func10, Try.ntmps10
  go_upto_region 4 with (first | (go_at_call 13; refine (OKC _).mono ?_; rintro e W1 ⟨rfl, hf1⟩; obtain ⟨x0, x1, x2, x3, x4, x5, x6, xf⟩ := cells7 (hf1.heap (heap_new _ _) (by simp))) | (go_at_call 17; refine (group_any _ _).mono ?_; rintro e w' ⟨rfl, rfl⟩))
  refine wp_world (fun W => Fr [] w W ∧ W.heap[w.heap.size]? = some (.cells #[.int .i64 12, .int .i64 a, .int .i64 b, .int .i64 alu, .int .i64 cc, .int .u64 imm, .int .i64 d] 24 (0, 0)) ∧ W.heap[W1.heap.size]? = some (intRow (groupOps 12)) ∧ W.heap[W1.heap.size + 1]? = some (u8Row (groupCodes 12)))
    ⟨((((Fr.refl [] w).alloc _).then0 hf1).alloc _).alloc _, heap_old _ (heap_old _ (hf1.heap (heap_new _ _) (by simp))), heap_old _ (heap_new _ _), heap_at (by simp) rfl⟩ ?_
  clear x0 x1 x2 x3 x4 x5 x6 xf
  rintro W ⟨hW, hB, hG, hC⟩
  obtain ⟨x0, x1, x2, x3, x4, x5, x6, xf⟩ := cells7 hB
  have hlt : w.heap.size < W.heap.size := lt_of_heap hB
  have HB := Lib.hid hB
  have HG := Lib.hid hG
  have HC := Lib.hid hC
  clear hB hG hC xf hf1 OKC
  go_wp2_with (go_at_call 22; refine (CD _).mono ?_; rintro e W2 ⟨sv, rfl, hown, hf2⟩)
  go_ret2; exact ⟨_, rfl, hown.mono hW.size, hW.then0 hf2⟩
set_option maxRecDepth 100000 in
set_option maxHeartbeats 4000000 in
theorem enc_13 (a b alu cc imm d : Int) (hok : okB ⟨13, a, b, alu, cc, imm, d⟩ = true) (ha0 : 0 ≤ a) (ha1 : a ≤ 15) (w : World) :
    Calls Try.prog 10 #[.agg #[.int .i64 13, .int .i64 a, .int .i64 b, .int .i64 alu, .int .i64 cc, .int .u64 imm, .int .i64 d]] w fun e w' => ∃ sv, e = .returned (.tuple #[sv, .bool true]) ∧ OwnB w.heap.size w' sv ([ub (rexI a 0), 141, ub (0 + 8 * (a % 8) + 5 % 8)] ++ leB d 4) ∧ Fr [] w w' := by
  have OKC : ∀ W, Calls Try.prog 13 #[.agg #[.int .i64 13, .int .i64 a, .int .i64 b, .int .i64 alu, .int .i64 cc, .int .u64 imm, .int .i64 d]] W fun e w' => e = .returned (.bool true) ∧ Fr [] W w' := fun W => by
    have := ok_any ⟨13, a, b, alu, cc, imm, d⟩ W
    rw [hok] at this
    exact this
  clear hok
  have CD : ∀ W, Calls Try.prog 22 #[.agg #[.int .i64 13, .int .i64 a, .int .i64 b, .int .i64 alu, .int .i64 cc, .int .u64 imm, .int .i64 d]] W fun e w' => ∃ sv, e = .returned sv ∧ OwnB W.heap.size w' sv ([ub (rexI a 0), 141, ub (0 + 8 * (a % 8) + 5 % 8)] ++ leB d 4) ∧ Fr [] W w' := fun W => code_13 a b alu cc imm d ha0 ha1 W
  obtain ⟨R, hR⟩ : ∃ R, [ub (rexI a 0), 141, ub (0 + 8 * (a % 8) + 5 % 8)] ++ leB d 4 = R := ⟨_, rfl⟩
  rw [hR] at CD ⊢
  clear hR
  have ea := and7 a ha0 ha1
  obtain ⟨p, hp⟩ : ∃ p, a % 8 = p := ⟨_, rfl⟩
  rw [hp] at ea
  have p0 : 0 ≤ p := by omega
  have p1 : p ≤ 7 := by omega
  clear hp ha0 ha1
  go_enter Try.func10, Try.ntmps10
  go_upto_region 4 with (first | (go_at_call 13; refine (OKC _).mono ?_; rintro e W1 ⟨rfl, hf1⟩; obtain ⟨x0, x1, x2, x3, x4, x5, x6, xf⟩ := cells7 (hf1.heap (heap_new _ _) (by simp))) | (go_at_call 17; refine (group_any _ _).mono ?_; rintro e w' ⟨rfl, rfl⟩))
  refine wp_world (fun W => Fr [] w W ∧ W.heap[w.heap.size]? = some (.cells #[.int .i64 13, .int .i64 a, .int .i64 b, .int .i64 alu, .int .i64 cc, .int .u64 imm, .int .i64 d] 24 (0, 0)) ∧ W.heap[W1.heap.size]? = some (intRow (groupOps 13)) ∧ W.heap[W1.heap.size + 1]? = some (u8Row (groupCodes 13)))
    ⟨((((Fr.refl [] w).alloc _).then0 hf1).alloc _).alloc _, heap_old _ (heap_old _ (hf1.heap (heap_new _ _) (by simp))), heap_old _ (heap_new _ _), heap_at (by simp) rfl⟩ ?_
  clear x0 x1 x2 x3 x4 x5 x6 xf
  rintro W ⟨hW, hB, hG, hC⟩
  obtain ⟨x0, x1, x2, x3, x4, x5, x6, xf⟩ := cells7 hB
  have hlt : w.heap.size < W.heap.size := lt_of_heap hB
  have HB := Lib.hid hB
  have HG := Lib.hid hG
  have HC := Lib.hid hC
  clear hB hG hC xf hf1 OKC
  go_wp2_with (go_at_call 22; refine (CD _).mono ?_; rintro e W2 ⟨sv, rfl, hown, hf2⟩)
  go_ret2; exact ⟨_, rfl, hown.mono hW.size, hW.then0 hf2⟩
set_option maxRecDepth 100000 in
set_option maxHeartbeats 4000000 in
theorem enc_17 (a b alu cc imm d : Int) (hok : okB ⟨17, a, b, alu, cc, imm, d⟩ = true) (ha0 : 0 ≤ a) (ha1 : a ≤ 15) (w : World) :
    Calls Try.prog 10 #[.agg #[.int .i64 17, .int .i64 a, .int .i64 b, .int .i64 alu, .int .i64 cc, .int .u64 imm, .int .i64 d]] w fun e w' => ∃ sv, e = .returned (.tuple #[sv, .bool true]) ∧ OwnB w.heap.size w' sv ([232] ++ leB d 4) ∧ Fr [] w w' := by
  have OKC : ∀ W, Calls Try.prog 13 #[.agg #[.int .i64 17, .int .i64 a, .int .i64 b, .int .i64 alu, .int .i64 cc, .int .u64 imm, .int .i64 d]] W fun e w' => e = .returned (.bool true) ∧ Fr [] W w' := fun W => by
    have := ok_any ⟨17, a, b, alu, cc, imm, d⟩ W
    rw [hok] at this
    exact this
  clear hok
  have CD : ∀ W, Calls Try.prog 22 #[.agg #[.int .i64 17, .int .i64 a, .int .i64 b, .int .i64 alu, .int .i64 cc, .int .u64 imm, .int .i64 d]] W fun e w' => ∃ sv, e = .returned sv ∧ OwnB W.heap.size w' sv ([232] ++ leB d 4) ∧ Fr [] W w' := fun W => code_17 a b alu cc imm d W
  obtain ⟨R, hR⟩ : ∃ R, [232] ++ leB d 4 = R := ⟨_, rfl⟩
  rw [hR] at CD ⊢
  clear hR
  have ea := and7 a ha0 ha1
  obtain ⟨p, hp⟩ : ∃ p, a % 8 = p := ⟨_, rfl⟩
  rw [hp] at ea
  have p0 : 0 ≤ p := by omega
  have p1 : p ≤ 7 := by omega
  clear hp ha0 ha1
  go_enter Try.func10, Try.ntmps10
  go_upto_region 4 with (first | (go_at_call 13; refine (OKC _).mono ?_; rintro e W1 ⟨rfl, hf1⟩; obtain ⟨x0, x1, x2, x3, x4, x5, x6, xf⟩ := cells7 (hf1.heap (heap_new _ _) (by simp))) | (go_at_call 17; refine (group_any _ _).mono ?_; rintro e w' ⟨rfl, rfl⟩))
  refine wp_world (fun W => Fr [] w W ∧ W.heap[w.heap.size]? = some (.cells #[.int .i64 17, .int .i64 a, .int .i64 b, .int .i64 alu, .int .i64 cc, .int .u64 imm, .int .i64 d] 24 (0, 0)) ∧ W.heap[W1.heap.size]? = some (intRow (groupOps 17)) ∧ W.heap[W1.heap.size + 1]? = some (u8Row (groupCodes 17)))
    ⟨((((Fr.refl [] w).alloc _).then0 hf1).alloc _).alloc _, heap_old _ (heap_old _ (hf1.heap (heap_new _ _) (by simp))), heap_old _ (heap_new _ _), heap_at (by simp) rfl⟩ ?_
  clear x0 x1 x2 x3 x4 x5 x6 xf
  rintro W ⟨hW, hB, hG, hC⟩
  obtain ⟨x0, x1, x2, x3, x4, x5, x6, xf⟩ := cells7 hB
  have hlt : w.heap.size < W.heap.size := lt_of_heap hB
  have HB := Lib.hid hB
  have HG := Lib.hid hG
  have HC := Lib.hid hC
  clear hB hG hC xf hf1 OKC
  go_wp2_with (go_at_call 22; refine (CD _).mono ?_; rintro e W2 ⟨sv, rfl, hown, hf2⟩)
  go_ret2; exact ⟨_, rfl, hown.mono hW.size, hW.then0 hf2⟩
set_option maxRecDepth 100000 in
set_option maxHeartbeats 4000000 in
theorem enc_18 (a b alu cc imm d : Int) (hok : okB ⟨18, a, b, alu, cc, imm, d⟩ = true) (ha0 : 0 ≤ a) (ha1 : a ≤ 15) (w : World) :
    Calls Try.prog 10 #[.agg #[.int .i64 18, .int .i64 a, .int .i64 b, .int .i64 alu, .int .i64 cc, .int .u64 imm, .int .i64 d]] w fun e w' => ∃ sv, e = .returned (.tuple #[sv, .bool true]) ∧ OwnB w.heap.size w' sv ([233] ++ leB d 4) ∧ Fr [] w w' := by
  have OKC : ∀ W, Calls Try.prog 13 #[.agg #[.int .i64 18, .int .i64 a, .int .i64 b, .int .i64 alu, .int .i64 cc, .int .u64 imm, .int .i64 d]] W fun e w' => e = .returned (.bool true) ∧ Fr [] W w' := fun W => by
    have := ok_any ⟨18, a, b, alu, cc, imm, d⟩ W
    rw [hok] at this
    exact this
  clear hok
  have CD : ∀ W, Calls Try.prog 22 #[.agg #[.int .i64 18, .int .i64 a, .int .i64 b, .int .i64 alu, .int .i64 cc, .int .u64 imm, .int .i64 d]] W fun e w' => ∃ sv, e = .returned sv ∧ OwnB W.heap.size w' sv ([233] ++ leB d 4) ∧ Fr [] W w' := fun W => code_18 a b alu cc imm d W
  obtain ⟨R, hR⟩ : ∃ R, [233] ++ leB d 4 = R := ⟨_, rfl⟩
  rw [hR] at CD ⊢
  clear hR
  have ea := and7 a ha0 ha1
  obtain ⟨p, hp⟩ : ∃ p, a % 8 = p := ⟨_, rfl⟩
  rw [hp] at ea
  have p0 : 0 ≤ p := by omega
  have p1 : p ≤ 7 := by omega
  clear hp ha0 ha1
  go_enter Try.func10, Try.ntmps10
  go_upto_region 4 with (first | (go_at_call 13; refine (OKC _).mono ?_; rintro e W1 ⟨rfl, hf1⟩; obtain ⟨x0, x1, x2, x3, x4, x5, x6, xf⟩ := cells7 (hf1.heap (heap_new _ _) (by simp))) | (go_at_call 17; refine (group_any _ _).mono ?_; rintro e w' ⟨rfl, rfl⟩))
  refine wp_world (fun W => Fr [] w W ∧ W.heap[w.heap.size]? = some (.cells #[.int .i64 18, .int .i64 a, .int .i64 b, .int .i64 alu, .int .i64 cc, .int .u64 imm, .int .i64 d] 24 (0, 0)) ∧ W.heap[W1.heap.size]? = some (intRow (groupOps 18)) ∧ W.heap[W1.heap.size + 1]? = some (u8Row (groupCodes 18)))
    ⟨((((Fr.refl [] w).alloc _).then0 hf1).alloc _).alloc _, heap_old _ (heap_old _ (hf1.heap (heap_new _ _) (by simp))), heap_old _ (heap_new _ _), heap_at (by simp) rfl⟩ ?_
  clear x0 x1 x2 x3 x4 x5 x6 xf
  rintro W ⟨hW, hB, hG, hC⟩
  obtain ⟨x0, x1, x2, x3, x4, x5, x6, xf⟩ := cells7 hB
  have hlt : w.heap.size < W.heap.size := lt_of_heap hB
  have HB := Lib.hid hB
  have HG := Lib.hid hG
  have HC := Lib.hid hC
  clear hB hG hC xf hf1 OKC
  go_wp2_with (go_at_call 22; refine (CD _).mono ?_; rintro e W2 ⟨sv, rfl, hown, hf2⟩)
  go_ret2; exact ⟨_, rfl, hown.mono hW.size, hW.then0 hf2⟩
set_option maxRecDepth 100000 in
set_option maxHeartbeats 4000000 in
theorem enc_21 (a b alu cc imm d : Int) (hok : okB ⟨21, a, b, alu, cc, imm, d⟩ = true) (ha0 : 0 ≤ a) (ha1 : a ≤ 15) (w : World) :
    Calls Try.prog 10 #[.agg #[.int .i64 21, .int .i64 a, .int .i64 b, .int .i64 alu, .int .i64 cc, .int .u64 imm, .int .i64 d]] w fun e w' => ∃ sv, e = .returned (.tuple #[sv, .bool true]) ∧ OwnB w.heap.size w' sv ([255, 21] ++ leB d 4) ∧ Fr [] w w' := by
  have OKC : ∀ W, Calls Try.prog 13 #[.agg #[.int .i64 21, .int .i64 a, .int .i64 b, .int .i64 alu, .int .i64 cc, .int .u64 imm, .int .i64 d]] W fun e w' => e = .returned (.bool true) ∧ Fr [] W w' := fun W => by
    have := ok_any ⟨21, a, b, alu, cc, imm, d⟩ W
    rw [hok] at this
    exact this
  clear hok
  have CD : ∀ W, Calls Try.prog 22 #[.agg #[.int .i64 21, .int .i64 a, .int .i64 b, .int .i64 alu, .int .i64 cc, .int .u64 imm, .int .i64 d]] W fun e w' => ∃ sv, e = .returned sv ∧ OwnB W.heap.size w' sv ([255, 21] ++ leB d 4) ∧ Fr [] W w' := fun W => code_21 a b alu cc imm d W
  obtain ⟨R, hR⟩ : ∃ R, [255, 21] ++ leB d 4 = R := ⟨_, rfl⟩
  rw [hR] at CD ⊢
  clear hR
  have ea := and7 a ha0 ha1
  obtain ⟨p, hp⟩ : ∃ p, a % 8 = p := ⟨_, rfl⟩
  rw [hp] at ea
  have p0 : 0 ≤ p := by omega
  have p1 : p ≤ 7 := by omega
  clear hp ha0 ha1
  go_enter Try.func10, Try.ntmps10
  go_upto_region 4 with (first | (go_at_call 13; refine (OKC _).mono ?_; rintro e W1 ⟨rfl, hf1⟩; obtain ⟨x0, x1, x2, x3, x4, x5, x6, xf⟩ := cells7 (hf1.heap (heap_new _ _) (by simp))) | (go_at_call 17; refine (group_any _ _).mono ?_; rintro e w' ⟨rfl, rfl⟩))
  refine wp_world (fun W => Fr [] w W ∧ W.heap[w.heap.size]? = some (.cells #[.int .i64 21, .int .i64 a, .int .i64 b, .int .i64 alu, .int .i64 cc, .int .u64 imm, .int .i64 d] 24 (0, 0)) ∧ W.heap[W1.heap.size]? = some (intRow (groupOps 21)) ∧ W.heap[W1.heap.size + 1]? = some (u8Row (groupCodes 21)))
    ⟨((((Fr.refl [] w).alloc _).then0 hf1).alloc _).alloc _, heap_old _ (heap_old _ (hf1.heap (heap_new _ _) (by simp))), heap_old _ (heap_new _ _), heap_at (by simp) rfl⟩ ?_
  clear x0 x1 x2 x3 x4 x5 x6 xf
  rintro W ⟨hW, hB, hG, hC⟩
  obtain ⟨x0, x1, x2, x3, x4, x5, x6, xf⟩ := cells7 hB
  have hlt : w.heap.size < W.heap.size := lt_of_heap hB
  have HB := Lib.hid hB
  have HG := Lib.hid hG
  have HC := Lib.hid hC
  clear hB hG hC xf hf1 OKC
  go_wp2_with (go_at_call 22; refine (CD _).mono ?_; rintro e W2 ⟨sv, rfl, hown, hf2⟩)
  go_ret2; exact ⟨_, rfl, hown.mono hW.size, hW.then0 hf2⟩
set_option maxRecDepth 100000 in
set_option maxHeartbeats 4000000 in
theorem enc_22 (a b alu cc imm d : Int) (hok : okB ⟨22, a, b, alu, cc, imm, d⟩ = true) (ha0 : 0 ≤ a) (ha1 : a ≤ 15) (w : World) :
    Calls Try.prog 10 #[.agg #[.int .i64 22, .int .i64 a, .int .i64 b, .int .i64 alu, .int .i64 cc, .int .u64 imm, .int .i64 d]] w fun e w' => ∃ sv, e = .returned (.tuple #[sv, .bool true]) ∧ OwnB w.heap.size w' sv ([255, 37] ++ leB d 4) ∧ Fr [] w w' := by
  have OKC : ∀ W, Calls Try.prog 13 #[.agg #[.int .i64 22, .int .i64 a, .int .i64 b, .int .i64 alu, .int .i64 cc, .int .u64 imm, .int .i64 d]] W fun e w' => e = .returned (.bool true) ∧ Fr [] W w' := fun W => by
    have := ok_any ⟨22, a, b, alu, cc, imm, d⟩ W
    rw [hok] at this
    exact this
  clear hok
  have CD : ∀ W, Calls Try.prog 22 #[.agg #[.int .i64 22, .int .i64 a, .int .i64 b, .int .i64 alu, .int .i64 cc, .int .u64 imm, .int .i64 d]] W fun e w' => ∃ sv, e = .returned sv ∧ OwnB W.heap.size w' sv ([255, 37] ++ leB d 4) ∧ Fr [] W w' := fun W => code_22 a b alu cc imm d W
  obtain ⟨R, hR⟩ : ∃ R, [255, 37] ++ leB d 4 = R := ⟨_, rfl⟩
  rw [hR] at CD ⊢
  clear hR
  have ea := and7 a ha0 ha1
  obtain ⟨p, hp⟩ : ∃ p, a % 8 = p := ⟨_, rfl⟩
  rw [hp] at ea
  have p0 : 0 ≤ p := by omega
  have p1 : p ≤ 7 := by omega
  clear hp ha0 ha1
  go_enter Try.func10, Try.ntmps10
  go_upto_region 4 with (first | (go_at_call 13; refine (OKC _).mono ?_; rintro e W1 ⟨rfl, hf1⟩; obtain ⟨x0, x1, x2, x3, x4, x5, x6, xf⟩ := cells7 (hf1.heap (heap_new _ _) (by simp))) | (go_at_call 17; refine (group_any _ _).mono ?_; rintro e w' ⟨rfl, rfl⟩))
  refine wp_world (fun W => Fr [] w W ∧ W.heap[w.heap.size]? = some (.cells #[.int .i64 22, .int .i64 a, .int .i64 b, .int .i64 alu, .int .i64 cc, .int .u64 imm, .int .i64 d] 24 (0, 0)) ∧ W.heap[W1.heap.size]? = some (intRow (groupOps 22)) ∧ W.heap[W1.heap.size + 1]? = some (u8Row (groupCodes 22)))
    ⟨((((Fr.refl [] w).alloc _).then0 hf1).alloc _).alloc _, heap_old _ (heap_old _ (hf1.heap (heap_new _ _) (by simp))), heap_old _ (heap_new _ _), heap_at (by simp) rfl⟩ ?_
  clear x0 x1 x2 x3 x4 x5 x6 xf
  rintro W ⟨hW, hB, hG, hC⟩
  obtain ⟨x0, x1, x2, x3, x4, x5, x6, xf⟩ := cells7 hB
  have hlt : w.heap.size < W.heap.size := lt_of_heap hB
  have HB := Lib.hid hB
  have HG := Lib.hid hG
  have HC := Lib.hid hC
  clear hB hG hC xf hf1 OKC
  go_wp2_with (go_at_call 22; refine (CD _).mono ?_; rintro e W2 ⟨sv, rfl, hown, hf2⟩)
  go_ret2; exact ⟨_, rfl, hown.mono hW.size, hW.then0 hf2⟩
end Go.Proofs.Ytegnmnhdpnmnpaa
