/- dec.Encode, walked op by op. -/
import Derived.Deep.RegionHeld3
import Derived.Deep.DeepCutAuto
import Derived.Deep.Light
import Derived.Test.YtegnmnhdpnmnpaaEncB
import Derived.Test.YtegnmnhdpnmnpaaOk3
namespace Go.Proofs.Ytegnmnhdpnmnpaa
set_option linter.unusedVariables false
set_option linter.unusedSimpArgs false
open Go.RowKit

theorem row1_cells {w : World} {g : Nat} {c : UInt8} {z : Int} {t : TypeId} (h : w.heap[g]? = some (.cells #[.int .u8 z] t (0, 0))) (hz : z = (c.toNat : Int)) : ∀ i (h : i < [c].length), w.cell? ⟨g, 0 + i, none⟩ = some (.int .u8 ([c][i].toNat : Int)) := by
  intro i hi
  simp at hi
  subst hi
  subst hz
  exact cell_of_heap h rfl
set_option maxRecDepth 100000 in
set_option maxHeartbeats 4000000 in
theorem enc_6 (a b alu cc imm d : Int) (hok : okB ⟨6, a, b, alu, cc, imm, d⟩ = true) (ha0 : 0 ≤ a) (ha1 : a ≤ 15) (hi0 : 0 ≤ imm) (hi1 : imm < 18446744073709551616) (w : World) :
    Calls Try.prog 10 #[.agg #[.int .i64 6, .int .i64 a, .int .i64 b, .int .i64 alu, .int .i64 cc, .int .u64 imm, .int .i64 d]] w fun e w' => ∃ sv, e = .returned (.tuple #[sv, .bool true]) ∧ OwnB w.heap.size w' sv (aheadL a ++ [ub (184 + a % 8)] ++ leB imm 4) ∧ Fr [] w w' := by
  have OKC : ∀ W, Calls Try.prog 13 #[.agg #[.int .i64 6, .int .i64 a, .int .i64 b, .int .i64 alu, .int .i64 cc, .int .u64 imm, .int .i64 d]] W fun e w' => e = .returned (.bool true) ∧ Fr [] W w' := fun W => by
    have := ok_any ⟨6, a, b, alu, cc, imm, d⟩ W
    rw [hok] at this
    exact this
  clear hok
  obtain ⟨AL, hAL⟩ : ∃ AL, aheadL a = AL := ⟨_, rfl⟩
  have hAl : AL.length ≤ 1 := by rw [← hAL]; unfold aheadL; split <;> simp
  have AHD : ∀ W : World, Calls Try.prog 18 #[.int .i64 a] W fun e w' => ∃ sv, e = .returned sv ∧ OwnB W.heap.size w' sv AL ∧ Fr [] W w' := fun W => by
    rw [← hAL]; exact ahead_any a W
  rw [hAL]
  clear hAL
  have LE : ∀ W, Calls Try.prog 20 #[.int .u64 imm, .int .i64 4] W fun e w' => ∃ g cp, e = .returned (.slice (some ⟨g, 0, none⟩) 4 cp) ∧ Made W w' g cp (leB imm 4) := le_any imm hi0 hi1 4 (by omega) (by omega)
  clear hi0 hi1
  have ea := and7 a ha0 ha1
  obtain ⟨p, hp⟩ : ∃ p, a % 8 = p := ⟨_, rfl⟩
  rw [hp] at ea
  rw [hp]
  have p0 : 0 ≤ p := by omega
  have p1 : p ≤ 7 := by omega
  clear hp ha0 ha1
  obtain ⟨c1, hc1⟩ : ∃ c1, ub (184 + p) = c1 := ⟨_, rfl⟩
  have HC1 : Hid (184 + p = (c1.toNat : Int)) := Lib.hid (by rw [← hc1, ub_id (by omega) (by omega)])
  rw [hc1]
  clear hc1
  go_enter Try.func10, Try.ntmps10
  go_upto_region 4 with (first | (go_at_call 13; refine (OKC _).mono ?_; rintro e W1 ⟨rfl, hf1⟩; obtain ⟨x0, x1, x2, x3, x4, x5, x6, xf⟩ := cells7 (hf1.heap (heap_new _ _) (by simp))) | (go_at_call 17; refine (group_any _ _).mono ?_; rintro e w' ⟨rfl, rfl⟩))
  refine wp_world (fun W => Fr [] w W ∧ W.heap[w.heap.size]? = some (.cells #[.int .i64 6, .int .i64 a, .int .i64 b, .int .i64 alu, .int .i64 cc, .int .u64 imm, .int .i64 d] 24 (0, 0)) ∧ W.heap[W1.heap.size]? = some (intRow (groupOps 6)) ∧ W.heap[W1.heap.size + 1]? = some (u8Row (groupCodes 6)))
    ⟨((((Fr.refl [] w).alloc _).then0 hf1).alloc _).alloc _, heap_old _ (heap_old _ (hf1.heap (heap_new _ _) (by simp))), heap_old _ (heap_new _ _), heap_at (by simp) rfl⟩ ?_
  clear x0 x1 x2 x3 x4 x5 x6 xf
  rintro W ⟨hW, hB, hG, hC⟩
  obtain ⟨x0, x1, x2, x3, x4, x5, x6, xf⟩ := cells7 hB
  have hlt : w.heap.size < W.heap.size := lt_of_heap hB
  have HB := Lib.hid hB
  have HG := Lib.hid hG
  have HC := Lib.hid hC
  clear hB hG hC xf hf1 OKC
  go_wp2_with fail
  (first | go_region_held3 (fun w' => w'.cell? ⟨w.heap.size, 0, none⟩ = some (.int .i64 6) ∧ w'.cell? ⟨w.heap.size, 1, none⟩ = some (.int .i64 a) ∧ w'.cell? ⟨w.heap.size, 2, none⟩ = some (.int .i64 b) ∧ w'.cell? ⟨w.heap.size, 3, none⟩ = some (.int .i64 alu) ∧ w'.cell? ⟨w.heap.size, 4, none⟩ = some (.int .i64 cc) ∧ w'.cell? ⟨w.heap.size, 5, none⟩ = some (.int .u64 imm) ∧ w'.cell? ⟨w.heap.size, 6, none⟩ = some (.int .i64 d)) ((refine cells7' (t := 24) ?_; first | ((repeat' (with_reducible (first | apply heap_old | apply heap_drew))); with_reducible exact HB.out) | ((repeat' (with_reducible (first | apply heap_old | apply heap_drew))); (with_reducible refine hf0.heap ?_ (by simp)); (repeat' (with_reducible (first | apply heap_old | apply heap_drew))); with_reducible exact HB.out) | ((with_reducible refine grown_heap hgr1 ?_ ?_); rotate_left 1; (intro e; have h9 := (hown0.lt _ e).1; (try simp at h9); omega); (repeat' (with_reducible (first | apply heap_old | apply heap_drew))); (with_reducible refine hf0.heap ?_ (by simp)); (repeat' (with_reducible (first | apply heap_old | apply heap_drew))); with_reducible exact HB.out) | ((with_reducible refine hm.fr.heap ?_ (by simp)); (with_reducible refine grown_heap hgr1 ?_ ?_); rotate_left 1; (intro e; have h9 := (hown0.lt _ e).1; (try simp at h9); omega); (repeat' (with_reducible (first | apply heap_old | apply heap_drew))); (with_reducible refine hf0.heap ?_ (by simp)); (repeat' (with_reducible (first | apply heap_old | apply heap_drew))); with_reducible exact HB.out) | ((with_reducible refine grown_heap hgr2 ?_ ?_); rotate_left 1; (intro e; have h9 := (hown1.lt _ e).1; omega); (with_reducible refine hm.fr.heap ?_ (by simp)); (with_reducible refine grown_heap hgr1 ?_ ?_); rotate_left 1; (intro e; have h9 := (hown0.lt _ e).1; (try simp at h9); omega); (repeat' (with_reducible (first | apply heap_old | apply heap_drew))); (with_reducible refine hf0.heap ?_ (by simp)); (repeat' (with_reducible (first | apply heap_old | apply heap_drew))); with_reducible exact HB.out))) (first | (go_at_call 18; refine (AHD _).mono ?_; rintro e W2 ⟨sv, rfl, hown0, hf0⟩) | (go_at_call 20; refine (LE _).mono ?_; rintro e W4 ⟨g, cp, rfl, hm⟩) | (refine step_append_bytes (by rfl) (.tmp 62) (.tmp 65) (by rfl) (w.heap.size + 1) sv AL (by rfl) (by first | ((with_reducible refine OwnB.fr0 ?_ (Fr.alloc (Fr.refl [] _) _)); exact hown0.mono (by simp; omega)) | exact hown0.mono (by simp; omega)) _ 1 1 [c1] (by rfl) (by rfl) (row1_cells (by first | ((with_reducible refine heap_at ?_ ?_); (focus (simp; done)); exact rfl) | ((with_reducible refine hf0.heap ?_ ?_); (with_reducible apply heap_drew); (with_reducible refine heap_at ?_ ?_); (focus (simp; done)); exact rfl; simp) | ((with_reducible refine hf0.heap ?_ ?_); (with_reducible refine heap_at ?_ ?_); (focus (simp; done)); exact rfl; simp)) (by simp [HC1.out, wrap_c])) (by simp) (by simp; omega) (Nat.succ_le_of_lt (lt_of_heap (by (repeat' (with_reducible (first | apply heap_old | apply heap_drew))); exact hf0.heap (by (repeat' (with_reducible (first | apply heap_old | apply heap_drew))); exact HB.out) (by simp)))) ?_; intro g1 cap1 W3 hown1 hgr1) | (refine step_append_bytes (by rfl) (.tmp 66) (.tmp 69) (by rfl) (w.heap.size + 1) _ (AL ++ [c1]) (by rfl) (hown1.fr0 hm.fr) g 4 cp (leB imm 4) (by rfl) (by rw [leB_length]) hm.cells (by simp [leB_length]) (by simp [leB_length]; omega) (Nat.succ_le_of_lt (lt_of_heap (hm.fr.heap (grown_heap hgr1 (by (repeat' (with_reducible (first | apply heap_old | apply heap_drew))); exact hf0.heap (by (repeat' (with_reducible (first | apply heap_old | apply heap_drew))); exact HB.out) (by simp)) (fun e => by have h9 := (hown0.lt _ e).1; (try simp at h9); omega)) (by simp)))) ?_; intro g2 cap2 W5 hown2 hgr2)) | fail)
  all_goals (go_wp2_with fail; go_ret2; exact ⟨_, rfl, by simpa using hown2.mono (Nat.le_succ _), (by refine Fr.grown ((Fr.grown ?_ hgr1 (fun k hk => .inr (by have h9 := (hown0.lt _ hk).1; (try simp at h9); omega))).then0 hm.fr) hgr2 (fun k hk => .inr (by have h9 := (hown1.lt _ hk).1; omega)); (repeat' (with_reducible (first | apply Fr.alloc | apply Fr.drew | exact hW | refine Fr.then0 ?_ hf0))))⟩)
end Go.Proofs.Ytegnmnhdpnmnpaa
