/- The table's forms are made: plain, one, two, fill. -/
import Derived.Deep.RegionHeld3
import Derived.Deep.DeepCutAuto
import Derived.Test.YtegnmnhdpnmnpaaOneRegA
import Derived.Test.YtegnmnhdpnmnpaaOneRegB
import Derived.Test.YtegnmnhdpnmnpaaOneRegC
namespace Go.Proofs.Ytegnmnhdpnmnpaa
set_option linter.unusedVariables false
set_option linter.unusedSimpArgs false
open Go.RowKit

def off3 (k : Nat) : Nat := if k = 0 then 0 else if k = 1 then 3 else if k = 2 then 5 else 7
theorem group14 (w : World) : Calls Try.prog 17 #[.int .i64 14] w fun e w' =>
    e = .returned (.tuple #[.slice (some ⟨w.heap.size, 0, none⟩) 3 3, .slice (some ⟨w.heap.size + 1, 0, none⟩) 3 3]) ∧
    (w.alloc (Obj.cells #[.int .i64 0, .int .i64 1, .int .i64 7] 3)).alloc (Obj.cells #[.int .u8 192, .int .u8 232, .int .u8 248] 5) = w' := group_any 14 w
theorem group15 (w : World) : Calls Try.prog 17 #[.int .i64 15] w fun e w' =>
    e = .returned (.tuple #[.slice (some ⟨w.heap.size, 0, none⟩) 2 2, .slice (some ⟨w.heap.size + 1, 0, none⟩) 2 2]) ∧
    (w.alloc (Obj.cells #[.int .i64 5, .int .i64 6] 3)).alloc (Obj.cells #[.int .u8 192, .int .u8 200] 5) = w' := group_any 15 w
theorem group16 (w : World) : Calls Try.prog 17 #[.int .i64 16] w fun e w' =>
    e = .returned (.tuple #[.slice (some ⟨w.heap.size, 0, none⟩) 2 2, .slice (some ⟨w.heap.size + 1, 0, none⟩) 2 2]) ∧
    (w.alloc (Obj.cells #[.int .i64 9, .int .i64 10] 3)).alloc (Obj.cells #[.int .u8 224, .int .u8 232] 5) = w' := group_any 16 w
theorem TabIs.fr0 {w0 w w' : World} {t : Nat} {c0 c1 c2 : Value} {fs : List Form} (h : TabIs w0 w t c0 c1 c2 fs) (_ht : t < w.heap.size) (f : Fr [] w w') : TabIs w0 w' t c0 c1 c2 fs := by
  obtain ⟨v, h1, h2, h3⟩ := h
  exact ⟨v, f.heap h1 (by simp), h2.fr f (by simp), h3.then0 f⟩
theorem TabIs.lt {w0 w : World} {t : Nat} {c0 c1 c2 : Value} {fs : List Form} (h : TabIs w0 w t c0 c1 c2 fs) : t < w.heap.size := by
  obtain ⟨v, h1, h2, h3⟩ := h
  exact lt_of_heap h1
set_option maxRecDepth 100000 in
set_option maxHeartbeats 8000000 in
theorem one_any (w0 w : World) (t : Nat) (ht0 : t < w0.heap.size) (c0 c1 c2 : Value) (hT0 : TabIs w0 w t c0 c1 c2 (FORMS.take 16)) :
    Calls Try.prog 54 #[.pointer (some ⟨t, 0, none⟩)] w fun e w' => e = .returned (.tuple #[]) ∧ TabIs w0 w' t c0 c1 c2 (FORMS.take 33) ∧ KT [some 69, some 90] w w' := by
  have hK0 : KT [some 69, some 90] w w := KT.refl _ _
  go_enter Try.func54, Try.ntmps54
  have hR : (w.alloc (Obj.cells #[.int .i64 3, .int .i64 4, .int .i64 6] 3)).heap[w.heap.size]? = some (Obj.cells #[.int .i64 3, .int .i64 4, .int .i64 6] 3) := heap_new _ _
  have hTR : TabIs w0 (w.alloc (Obj.cells #[.int .i64 3, .int .i64 4, .int .i64 6] 3)) t c0 c1 c2 (FORMS.take 16) := hT0.alloc _
  have hKR := hK0.alloc (Obj.cells #[.int .i64 3, .int .i64 4, .int .i64 6] 3)
  clear hT0 hK0
  go_wp2_with fail
  go_loopw [16] (fun i wr => ∃ (k : Nat) (V : World), V = wr ∧ k ≤ 3 ∧ i = .int .i64 k ∧ TabIs w0 wr t c0 c1 c2 (FORMS.take (16 + 2 * k)) ∧ KT [some 69, some 90] w wr ∧ wr.heap[w.heap.size]? = some (Obj.cells #[.int .i64 3, .int .i64 4, .int .i64 6] 3)) (fun i _ => 3 - (intOf i).toNat)
  case atStart => exact ⟨0, _, rfl, by omega, rfl, hTR, hKR, hR⟩
  case round =>
    obtain ⟨k, V, rfl, hk, rfl, hT, hK, hR⟩ := hrel
    have hcase : k = 0 ∨ k = 1 ∨ k = 2 ∨ k = 3 := by omega
    rcases hcase with rfl | rfl | rfl | rfl
    · have hc : V.cell? ⟨w.heap.size, 0, none⟩ = some (.int .i64 3) := cell_of_heap hR rfl
      go_upto_region 5 with fail
      refine wp_world (fun W => Fr [] V W ∧ W.heap[V.heap.size + 1 + 1]? = some (Obj.cells #[.int .u8 248, .int .u8 80] 99)) ⟨(by ((repeat' (with_reducible (first | apply Fr.drew | apply Fr.drewN | exact Fr.refl _ _ | apply Fr.alloc | apply Fr.setCell))); all_goals (right; first | (simp; done) | (simp; omega)))), heap_at (by simp) rfl⟩ ?_
      rintro W ⟨hW, hS⟩
      have s0 : W.cell? ⟨V.heap.size + 1 + 1, 0, none⟩ = some (.int .u8 248) := cell_of_heap hS rfl
      have s1 : W.cell? ⟨V.heap.size + 1 + 1, 1, none⟩ = some (.int .u8 80) := cell_of_heap hS rfl
      have hTW := hT.fr0 hT.lt hW
      have hKW := hK.then0 hW
      have hRW := hW.heap hR (by simp)
      clear hT hK hR hW hc
      go_upto_region 6 with (go_at_call 61; refine (add_any w0 _ t ht0 c0 c1 c2 (FORMS.take 16) (by (repeat' (with_reducible (first | apply TabIs.drew | apply TabIs.alloc))); exact hTW) (by decide) { steps := [(248, 80)], more := 0, op := 3, alu := 0, cc := 0 } _ _ _ _ _ (by have hz := TabIs.size hTW; (try simp at hz); (try simp); omega) _ rfl (by refine heap_at ?_ ?_; (focus simp); rfl) rfl rfl rfl rfl).mono ?_; rintro e W1 ⟨rfl, hT1, hk1⟩)
      have hK1 := KT.trans (by (repeat' (with_reducible (first | apply KT.drew | apply KT.drewN | apply KT.alloc))); exact hKW) hk1
      have hR1 := hk1.keep _ _ (by (repeat' (with_reducible (first | apply heap_old | apply heap_drew | apply heap_drewN))); exact hRW) (by decide)
      have hS1 := hk1.keep _ _ (by (repeat' (with_reducible (first | apply heap_old | apply heap_drew | apply heap_drewN))); exact hS) (by decide)
      obtain ⟨z0, z1⟩ := cells2 hS1
      clear hTW hKW hRW hS s0 s1 hk1
      (first | go_region_held3 (fun w' => w'.cell? ⟨V.heap.size + 1 + 1, 0, none⟩ = some (.int .u8 248) ∧ w'.cell? ⟨V.heap.size + 1 + 1, 1, none⟩ = some (.int .u8 80)) (first | exact cells2 (t := 99) (by (repeat' (with_reducible (first | apply heap_old | apply heap_drew | apply heap_drewN))); exact hS1) | exact cells2 (t := 99) (hk2.keep _ _ (by (repeat' (with_reducible (first | apply heap_old | apply heap_drew | apply heap_drewN))); exact hS1) (by decide))) (first | (go_at_call 62; refine (is_any _ _).mono ?_; rintro e w' ⟨rfl, rfl⟩) | (go_at_call 61; refine (add_any w0 _ t ht0 c0 c1 c2 (FORMS.take 17) (by (repeat' (with_reducible (first | apply TabIs.drew | apply TabIs.alloc))); exact hT1) (by decide) { steps := [(255, 65), (248, 80)], more := 0, op := 3, alu := 0, cc := 0 } _ _ _ _ _ (by have hz := TabIs.size hT1; (try simp at hz); (try simp); omega) _ rfl (by refine heap_at ?_ ?_; (focus simp); rfl) rfl rfl rfl rfl).mono ?_; rintro e W2 ⟨rfl, hT2, hk2⟩)) | fail)
      all_goals (go_wp2_with fail; go_roundw; (case rel => exact ⟨1, _, rfl, by omega, rfl, hT2, KT.trans (by (repeat' (with_reducible (first | apply KT.drew | apply KT.drewN | apply KT.alloc))); exact hK1) hk2, hk2.keep _ _ (by (repeat' (with_reducible (first | apply heap_old | apply heap_drew | apply heap_drewN))); exact hR1) (by decide)⟩); (case measure => (simp [intOf] <;> omega)))
    · have hc : V.cell? ⟨w.heap.size, 1, none⟩ = some (.int .i64 4) := cell_of_heap hR rfl
      go_upto_region 5 with fail
      refine wp_world (fun W => Fr [] V W ∧ W.heap[V.heap.size + 1 + 1]? = some (Obj.cells #[.int .u8 248, .int .u8 88] 99)) ⟨(by ((repeat' (with_reducible (first | apply Fr.drew | apply Fr.drewN | exact Fr.refl _ _ | apply Fr.alloc | apply Fr.setCell))); all_goals (right; first | (simp; done) | (simp; omega)))), heap_at (by simp) rfl⟩ ?_
      rintro W ⟨hW, hS⟩
      have s0 : W.cell? ⟨V.heap.size + 1 + 1, 0, none⟩ = some (.int .u8 248) := cell_of_heap hS rfl
      have s1 : W.cell? ⟨V.heap.size + 1 + 1, 1, none⟩ = some (.int .u8 88) := cell_of_heap hS rfl
      have hTW := hT.fr0 hT.lt hW
      have hKW := hK.then0 hW
      have hRW := hW.heap hR (by simp)
      clear hT hK hR hW hc
      go_upto_region 6 with (go_at_call 61; refine (add_any w0 _ t ht0 c0 c1 c2 (FORMS.take 18) (by (repeat' (with_reducible (first | apply TabIs.drew | apply TabIs.alloc))); exact hTW) (by decide) { steps := [(248, 88)], more := 0, op := 4, alu := 0, cc := 0 } _ _ _ _ _ (by have hz := TabIs.size hTW; (try simp at hz); (try simp); omega) _ rfl (by refine heap_at ?_ ?_; (focus simp); rfl) rfl rfl rfl rfl).mono ?_; rintro e W1 ⟨rfl, hT1, hk1⟩)
      have hK1 := KT.trans (by (repeat' (with_reducible (first | apply KT.drew | apply KT.drewN | apply KT.alloc))); exact hKW) hk1
      have hR1 := hk1.keep _ _ (by (repeat' (with_reducible (first | apply heap_old | apply heap_drew | apply heap_drewN))); exact hRW) (by decide)
      have hS1 := hk1.keep _ _ (by (repeat' (with_reducible (first | apply heap_old | apply heap_drew | apply heap_drewN))); exact hS) (by decide)
      obtain ⟨z0, z1⟩ := cells2 hS1
      clear hTW hKW hRW hS s0 s1 hk1
      (first | go_region_held3 (fun w' => w'.cell? ⟨V.heap.size + 1 + 1, 0, none⟩ = some (.int .u8 248) ∧ w'.cell? ⟨V.heap.size + 1 + 1, 1, none⟩ = some (.int .u8 88)) (first | exact cells2 (t := 99) (by (repeat' (with_reducible (first | apply heap_old | apply heap_drew | apply heap_drewN))); exact hS1) | exact cells2 (t := 99) (hk2.keep _ _ (by (repeat' (with_reducible (first | apply heap_old | apply heap_drew | apply heap_drewN))); exact hS1) (by decide))) (first | (go_at_call 62; refine (is_any _ _).mono ?_; rintro e w' ⟨rfl, rfl⟩) | (go_at_call 61; refine (add_any w0 _ t ht0 c0 c1 c2 (FORMS.take 19) (by (repeat' (with_reducible (first | apply TabIs.drew | apply TabIs.alloc))); exact hT1) (by decide) { steps := [(255, 65), (248, 88)], more := 0, op := 4, alu := 0, cc := 0 } _ _ _ _ _ (by have hz := TabIs.size hT1; (try simp at hz); (try simp); omega) _ rfl (by refine heap_at ?_ ?_; (focus simp); rfl) rfl rfl rfl rfl).mono ?_; rintro e W2 ⟨rfl, hT2, hk2⟩)) | fail)
      all_goals (go_wp2_with fail; go_roundw; (case rel => exact ⟨2, _, rfl, by omega, rfl, hT2, KT.trans (by (repeat' (with_reducible (first | apply KT.drew | apply KT.drewN | apply KT.alloc))); exact hK1) hk2, hk2.keep _ _ (by (repeat' (with_reducible (first | apply heap_old | apply heap_drew | apply heap_drewN))); exact hR1) (by decide)⟩); (case measure => (simp [intOf] <;> omega)))
    · have hc : V.cell? ⟨w.heap.size, 2, none⟩ = some (.int .i64 6) := cell_of_heap hR rfl
      go_upto_region 5 with fail
      refine wp_world (fun W => Fr [] V W ∧ W.heap[V.heap.size + 1 + 1]? = some (Obj.cells #[.int .u8 248, .int .u8 184] 99)) ⟨(by ((repeat' (with_reducible (first | apply Fr.drew | apply Fr.drewN | exact Fr.refl _ _ | apply Fr.alloc | apply Fr.setCell))); all_goals (right; first | (simp; done) | (simp; omega)))), heap_at (by simp) rfl⟩ ?_
      rintro W ⟨hW, hS⟩
      have s0 : W.cell? ⟨V.heap.size + 1 + 1, 0, none⟩ = some (.int .u8 248) := cell_of_heap hS rfl
      have s1 : W.cell? ⟨V.heap.size + 1 + 1, 1, none⟩ = some (.int .u8 184) := cell_of_heap hS rfl
      have hTW := hT.fr0 hT.lt hW
      have hKW := hK.then0 hW
      have hRW := hW.heap hR (by simp)
      clear hT hK hR hW hc
      go_upto_region 6 with (go_at_call 61; refine (add_any w0 _ t ht0 c0 c1 c2 (FORMS.take 20) (by (repeat' (with_reducible (first | apply TabIs.drew | apply TabIs.alloc))); exact hTW) (by decide) { steps := [(248, 184)], more := 4, op := 6, alu := 0, cc := 0 } _ _ _ _ _ (by have hz := TabIs.size hTW; (try simp at hz); (try simp); omega) _ rfl (by refine heap_at ?_ ?_; (focus simp); rfl) rfl rfl rfl rfl).mono ?_; rintro e W1 ⟨rfl, hT1, hk1⟩)
      have hK1 := KT.trans (by (repeat' (with_reducible (first | apply KT.drew | apply KT.drewN | apply KT.alloc))); exact hKW) hk1
      have hR1 := hk1.keep _ _ (by (repeat' (with_reducible (first | apply heap_old | apply heap_drew | apply heap_drewN))); exact hRW) (by decide)
      have hS1 := hk1.keep _ _ (by (repeat' (with_reducible (first | apply heap_old | apply heap_drew | apply heap_drewN))); exact hS) (by decide)
      obtain ⟨z0, z1⟩ := cells2 hS1
      clear hTW hKW hRW hS s0 s1 hk1
      (first | go_region_held3 (fun w' => w'.cell? ⟨V.heap.size + 1 + 1, 0, none⟩ = some (.int .u8 248) ∧ w'.cell? ⟨V.heap.size + 1 + 1, 1, none⟩ = some (.int .u8 184)) (first | exact cells2 (t := 99) (by (repeat' (with_reducible (first | apply heap_old | apply heap_drew | apply heap_drewN))); exact hS1) | exact cells2 (t := 99) (hk2.keep _ _ (by (repeat' (with_reducible (first | apply heap_old | apply heap_drew | apply heap_drewN))); exact hS1) (by decide))) (first | (go_at_call 62; refine (is_any _ _).mono ?_; rintro e w' ⟨rfl, rfl⟩) | (go_at_call 61; refine (add_any w0 _ t ht0 c0 c1 c2 (FORMS.take 21) (by (repeat' (with_reducible (first | apply TabIs.drew | apply TabIs.alloc))); exact hT1) (by decide) { steps := [(255, 65), (248, 184)], more := 4, op := 6, alu := 0, cc := 0 } _ _ _ _ _ (by have hz := TabIs.size hT1; (try simp at hz); (try simp); omega) _ rfl (by refine heap_at ?_ ?_; (focus simp); rfl) rfl rfl rfl rfl).mono ?_; rintro e W2 ⟨rfl, hT2, hk2⟩)) | fail)
      all_goals (go_wp2_with fail; go_roundw; (case rel => exact ⟨3, _, rfl, by omega, rfl, hT2, KT.trans (by (repeat' (with_reducible (first | apply KT.drew | apply KT.drewN | apply KT.alloc))); exact hK1) hk2, hk2.keep _ _ (by (repeat' (with_reducible (first | apply heap_old | apply heap_drew | apply heap_drewN))); exact hR1) (by decide)⟩); (case measure => (simp [intOf] <;> omega)))
    · clear hR
      go_upto_region 9 with (go_at_call 61; refine (add_any w0 _ t ht0 c0 c1 c2 (FORMS.take 22) (by (repeat' (with_reducible (first | apply TabIs.drew | apply TabIs.alloc))); exact hT) (by decide) { steps := [(254, 72), (248, 184)], more := 8, op := 5, alu := 0, cc := 0 } _ _ _ _ _ (by have hz := TabIs.size hT; (try simp at hz); (try simp); omega) _ rfl (by refine heap_at ?_ ?_; (focus simp); rfl) rfl rfl rfl rfl).mono ?_; rintro e W1 ⟨rfl, hT1, hk1⟩)
      have hK1 := KT.trans (by (repeat' (with_reducible (first | apply KT.drew | apply KT.drewN | apply KT.alloc))); exact hK) hk1
      have hR : (W1.alloc (Obj.cells #[.int .i64 11, .int .i64 12, .int .i64 13] 3)).heap[W1.heap.size]? = some (Obj.cells #[.int .i64 11, .int .i64 12, .int .i64 13] 3) := heap_new _ _
      have hTR : TabIs w0 (W1.alloc (Obj.cells #[.int .i64 11, .int .i64 12, .int .i64 13] 3)) t c0 c1 c2 (FORMS.take 23) := hT1.alloc _
      have hKR := hK1.alloc (Obj.cells #[.int .i64 11, .int .i64 12, .int .i64 13] 3)
      clear hT hK hT1 hK1 hk1
      go_wp2_with fail
      go_loopw [54] (fun i wr => ∃ (k : Nat) (V : World), V = wr ∧ k ≤ 3 ∧ i = .int .i64 k ∧ TabIs w0 wr t c0 c1 c2 (FORMS.take (23 + k)) ∧ KT [some 69, some 90] w wr ∧ wr.heap[W1.heap.size]? = some (Obj.cells #[.int .i64 11, .int .i64 12, .int .i64 13] 3)) (fun i _ => 3 - (intOf i).toNat)
      case atStart => exact ⟨0, _, rfl, by omega, rfl, hTR, hKR, hR⟩
      case round =>
        obtain ⟨k, V2, rfl, hk, rfl, hT, hK, hR⟩ := hrel
        have hcase : k = 0 ∨ k = 1 ∨ k = 2 ∨ k = 3 := by omega
        rcases hcase with rfl | rfl | rfl | rfl
        · have hc : V2.cell? ⟨W1.heap.size, 0, none⟩ = some (.int .i64 11) := cell_of_heap hR rfl
          go_wp2_with (first | (go_at_call 62; refine (is_any _ _).mono ?_; rintro e w' ⟨rfl, rfl⟩) | (go_at_call 61; refine (add_any w0 _ t ht0 c0 c1 c2 (FORMS.take 23) (by (repeat' (with_reducible (first | apply TabIs.drew | apply TabIs.alloc))); exact hT) (by decide) { steps := [(251, 72), (255, 139), (199, 5)], more := 4, op := 11, alu := 0, cc := 0 } _ _ _ _ _ (by have hz := TabIs.size hT; (try simp at hz); (try simp); omega) _ rfl (by refine heap_at ?_ ?_; (focus simp); rfl) rfl rfl rfl rfl).mono ?_; rintro e W2 ⟨rfl, hT2, hk2⟩))
          go_roundw
          case rel => exact ⟨1, _, rfl, by omega, rfl, hT2, KT.trans (by (repeat' (with_reducible (first | apply KT.drew | apply KT.drewN | apply KT.alloc))); exact hK) hk2, hk2.keep _ _ (by (repeat' (with_reducible (first | apply heap_old | apply heap_drew | apply heap_drewN))); exact hR) (by decide)⟩
          case measure => simp [intOf]
        · have hc : V2.cell? ⟨W1.heap.size, 1, none⟩ = some (.int .i64 12) := cell_of_heap hR rfl
          go_wp2_with (first | (go_at_call 62; refine (is_any _ _).mono ?_; rintro e w' ⟨rfl, rfl⟩) | (go_at_call 61; refine (add_any w0 _ t ht0 c0 c1 c2 (FORMS.take 24) (by (repeat' (with_reducible (first | apply TabIs.drew | apply TabIs.alloc))); exact hT) (by decide) { steps := [(251, 72), (255, 137), (199, 5)], more := 4, op := 12, alu := 0, cc := 0 } _ _ _ _ _ (by have hz := TabIs.size hT; (try simp at hz); (try simp); omega) _ rfl (by refine heap_at ?_ ?_; (focus simp); rfl) rfl rfl rfl rfl).mono ?_; rintro e W2 ⟨rfl, hT2, hk2⟩))
          go_roundw
          case rel => exact ⟨2, _, rfl, by omega, rfl, hT2, KT.trans (by (repeat' (with_reducible (first | apply KT.drew | apply KT.drewN | apply KT.alloc))); exact hK) hk2, hk2.keep _ _ (by (repeat' (with_reducible (first | apply heap_old | apply heap_drew | apply heap_drewN))); exact hR) (by decide)⟩
          case measure => simp [intOf]
        · have hc : V2.cell? ⟨W1.heap.size, 2, none⟩ = some (.int .i64 13) := cell_of_heap hR rfl
          go_wp2_with (first | (go_at_call 62; refine (is_any _ _).mono ?_; rintro e w' ⟨rfl, rfl⟩) | (go_at_call 61; refine (add_any w0 _ t ht0 c0 c1 c2 (FORMS.take 25) (by (repeat' (with_reducible (first | apply TabIs.drew | apply TabIs.alloc))); exact hT) (by decide) { steps := [(251, 72), (255, 141), (199, 5)], more := 4, op := 13, alu := 0, cc := 0 } _ _ _ _ _ (by have hz := TabIs.size hT; (try simp at hz); (try simp); omega) _ rfl (by refine heap_at ?_ ?_; (focus simp); rfl) rfl rfl rfl rfl).mono ?_; rintro e W2 ⟨rfl, hT2, hk2⟩))
          go_roundw
          case rel => exact ⟨3, _, rfl, by omega, rfl, hT2, KT.trans (by (repeat' (with_reducible (first | apply KT.drew | apply KT.drewN | apply KT.alloc))); exact hK) hk2, hk2.keep _ _ (by (repeat' (with_reducible (first | apply heap_old | apply heap_drew | apply heap_drewN))); exact hR) (by decide)⟩
          case measure => simp [intOf]
        · clear hR
          have hR : (V2.alloc (Obj.cells #[.int .i64 14, .int .i64 15, .int .i64 16] 3)).heap[V2.heap.size]? = some (Obj.cells #[.int .i64 14, .int .i64 15, .int .i64 16] 3) := heap_new _ _
          have hTR : TabIs w0 (V2.alloc (Obj.cells #[.int .i64 14, .int .i64 15, .int .i64 16] 3)) t c0 c1 c2 (FORMS.take (26 + off3 0)) := hT.alloc _
          have hKR := hK.alloc (Obj.cells #[.int .i64 14, .int .i64 15, .int .i64 16] 3)
          clear hT hK
          go_wp2_with fail
          go_loopw [74] (fun i wr => ∃ (k : Nat) (V : World), V = wr ∧ k ≤ 3 ∧ i = .int .i64 k ∧ TabIs w0 wr t c0 c1 c2 (FORMS.take (26 + off3 k)) ∧ KT [some 69, some 90] w wr ∧ wr.heap[V2.heap.size]? = some (Obj.cells #[.int .i64 14, .int .i64 15, .int .i64 16] 3)) (fun i _ => 3 - (intOf i).toNat)
          case atStart => exact ⟨0, _, rfl, by omega, rfl, hTR, hKR, hR⟩
          case round =>
            obtain ⟨k, V3, rfl, hk, rfl, hT, hK, hR⟩ := hrel
            have hcase : k = 0 ∨ k = 1 ∨ k = 2 ∨ k = 3 := by omega
            rcases hcase with rfl | rfl | rfl | rfl
            · have hc : V3.cell? ⟨V2.heap.size, 0, none⟩ = some (.int .i64 14) := cell_of_heap hR rfl
              have hRG := heap_old (Obj.cells #[.int .u8 192, .int .u8 232, .int .u8 248] 5) (heap_old (Obj.cells #[.int .i64 0, .int .i64 1, .int .i64 7] 3) hR)
              have hG : ((V3.alloc (Obj.cells #[.int .i64 0, .int .i64 1, .int .i64 7] 3)).alloc (Obj.cells #[.int .u8 192, .int .u8 232, .int .u8 248] 5)).heap[V3.heap.size]? = some (Obj.cells #[.int .i64 0, .int .i64 1, .int .i64 7] 3) := heap_old _ (heap_new _ _)
              have hH : ((V3.alloc (Obj.cells #[.int .i64 0, .int .i64 1, .int .i64 7] 3)).alloc (Obj.cells #[.int .u8 192, .int .u8 232, .int .u8 248] 5)).heap[V3.heap.size + 1]? = some (Obj.cells #[.int .u8 192, .int .u8 232, .int .u8 248] 5) := heap_at (by simp) rfl
              have hTG : TabIs w0 ((V3.alloc (Obj.cells #[.int .i64 0, .int .i64 1, .int .i64 7] 3)).alloc (Obj.cells #[.int .u8 192, .int .u8 232, .int .u8 248] 5)) t c0 c1 c2 (FORMS.take (26 + 0)) := (hT.alloc _).alloc _
              have hKG := (hK.alloc (Obj.cells #[.int .i64 0, .int .i64 1, .int .i64 7] 3)).alloc (Obj.cells #[.int .u8 192, .int .u8 232, .int .u8 248] 5)
              clear hT hK hR
              go_wp2_with (go_at_call 17; refine (group14 _).mono ?_; rintro e w' ⟨rfl, rfl⟩)
              clear hc
              go_loopw [86] (fun i wr => ∃ (k : Nat) (V : World), V = wr ∧ k ≤ 3 ∧ i = .int .i64 k ∧ TabIs w0 wr t c0 c1 c2 (FORMS.take (26 + k)) ∧ KT [some 69, some 90] w wr ∧ wr.heap[V2.heap.size]? = some (Obj.cells #[.int .i64 14, .int .i64 15, .int .i64 16] 3) ∧ wr.heap[V3.heap.size]? = some (Obj.cells #[.int .i64 0, .int .i64 1, .int .i64 7] 3) ∧ wr.heap[V3.heap.size + 1]? = some (Obj.cells #[.int .u8 192, .int .u8 232, .int .u8 248] 5)) (fun i _ => 3 - (intOf i).toNat)
              case atStart => exact ⟨0, _, rfl, by omega, rfl, hTG, hKG, hRG, hG, hH⟩
              case round =>
                obtain ⟨j, V4, rfl, hj, rfl, hT, hK, hR, hG, hH⟩ := hrel
                by_cases hlt : j < 3
                · obtain ⟨alu, code, hga, hhc, hfs⟩ : ∃ alu code : Nat, (#[.int .i64 0, .int .i64 1, .int .i64 7] : Array Value)[j]? = some (.int .i64 (alu : Int)) ∧ (#[.int .u8 192, .int .u8 232, .int .u8 248] : Array Value)[j]? = some (.int .u8 (code : Int)) ∧ FORMS.take (26 + j) ++ [{ steps := [(254, 72), (255, 131), (248, code)], more := 1, op := 14, alu := alu, cc := 0 }] = FORMS.take (26 + (j + 1)) := by
                    have hcase : j = 0 ∨ j = 1 ∨ j = 2 := by omega
                    rcases hcase with rfl | rfl | rfl
                    · exact ⟨0, 192, rfl, rfl, rfl⟩
                    · exact ⟨1, 232, rfl, rfl, rfl⟩
                    · exact ⟨7, 248, rfl, rfl, rfl⟩
                  have hc : V4.cell? ⟨V3.heap.size, j, none⟩ = some (.int .i64 (alu : Int)) := cell_of_heap hG hga
                  have HHC := Lib.hid hhc
                  have HFS := Lib.hid hfs
                  clear hga hhc hfs
                  go_wp2_with fail
                  refine reg21_0 w0 _ t _ ht0 c0 c1 c2 _ (by simp; omega) hT alu code j 3 (by omega) _ hH HHC.out _ _ _ _ _ _ _ _ _ _ _ _ _ _ _ _ _ _ _ _ _ _ _ _ _ _ _ _ _ _ _ _ _ _ _ _ _ _ _ _ _ _ _ _ _ _ _ _ _ _ _ _ _ _ _ _ _ _ _ _ _ _ _ _ _ _ _ _ _ _ _ _ _ _ _ _ _ _ _ _ _ _ _ _ _ _ _ _ _ _ _ _ _ _ _ _ _ _ _ _ _ _ _ _ _ _ _ _ _ ?_
                  intro x0 x1 x2 x3 x4 x5 x6 x7 x8 x9 x10 x11 x12 x13 x14 x15 x16 x17 x18 x19 x20 W2 hT2 hK2
                  rw [HFS.out] at hT2
                  have hKn := KT.trans hK hK2
                  have hRn := hK2.keep _ _ hR (by decide)
                  have hGn := hK2.keep _ _ hG (by decide)
                  have hHn := hK2.keep _ _ hH (by decide)
                  clear hc hT hK hR hG hH hK2
                  go_wp2_with fail
                  go_roundw
                  case rel => exact ⟨j + 1, _, rfl, by omega, by go_num, hT2, hKn, hRn, hGn, hHn⟩
                  case measure => simp [intOf]; omega
                · obtain rfl : j = 3 := by omega
                  go_wp2_with fail
                  go_roundw
                  case rel => ((repeat apply Exists.intro); exact ⟨⟨1, _, rfl, by omega, rfl, hT, hK, hR⟩, rfl⟩)
                  case measure => simp [intOf]
            · have hc : V3.cell? ⟨V2.heap.size, 1, none⟩ = some (.int .i64 15) := cell_of_heap hR rfl
              have hRG := heap_old (Obj.cells #[.int .u8 192, .int .u8 200] 5) (heap_old (Obj.cells #[.int .i64 5, .int .i64 6] 3) hR)
              have hG : ((V3.alloc (Obj.cells #[.int .i64 5, .int .i64 6] 3)).alloc (Obj.cells #[.int .u8 192, .int .u8 200] 5)).heap[V3.heap.size]? = some (Obj.cells #[.int .i64 5, .int .i64 6] 3) := heap_old _ (heap_new _ _)
              have hH : ((V3.alloc (Obj.cells #[.int .i64 5, .int .i64 6] 3)).alloc (Obj.cells #[.int .u8 192, .int .u8 200] 5)).heap[V3.heap.size + 1]? = some (Obj.cells #[.int .u8 192, .int .u8 200] 5) := heap_at (by simp) rfl
              have hTG : TabIs w0 ((V3.alloc (Obj.cells #[.int .i64 5, .int .i64 6] 3)).alloc (Obj.cells #[.int .u8 192, .int .u8 200] 5)) t c0 c1 c2 (FORMS.take (29 + 0)) := (hT.alloc _).alloc _
              have hKG := (hK.alloc (Obj.cells #[.int .i64 5, .int .i64 6] 3)).alloc (Obj.cells #[.int .u8 192, .int .u8 200] 5)
              clear hT hK hR
              go_wp2_with (go_at_call 17; refine (group15 _).mono ?_; rintro e w' ⟨rfl, rfl⟩)
              clear hc
              go_loopw [86] (fun i wr => ∃ (k : Nat) (V : World), V = wr ∧ k ≤ 2 ∧ i = .int .i64 k ∧ TabIs w0 wr t c0 c1 c2 (FORMS.take (29 + k)) ∧ KT [some 69, some 90] w wr ∧ wr.heap[V2.heap.size]? = some (Obj.cells #[.int .i64 14, .int .i64 15, .int .i64 16] 3) ∧ wr.heap[V3.heap.size]? = some (Obj.cells #[.int .i64 5, .int .i64 6] 3) ∧ wr.heap[V3.heap.size + 1]? = some (Obj.cells #[.int .u8 192, .int .u8 200] 5)) (fun i _ => 2 - (intOf i).toNat)
              case atStart => exact ⟨0, _, rfl, by omega, rfl, hTG, hKG, hRG, hG, hH⟩
              case round =>
                obtain ⟨j, V4, rfl, hj, rfl, hT, hK, hR, hG, hH⟩ := hrel
                by_cases hlt : j < 2
                · obtain ⟨alu, code, hga, hhc, hfs⟩ : ∃ alu code : Nat, (#[.int .i64 5, .int .i64 6] : Array Value)[j]? = some (.int .i64 (alu : Int)) ∧ (#[.int .u8 192, .int .u8 200] : Array Value)[j]? = some (.int .u8 (code : Int)) ∧ FORMS.take (29 + j) ++ [{ steps := [(254, 72), (255, 255), (248, code)], more := 0, op := 15, alu := alu, cc := 0 }] = FORMS.take (29 + (j + 1)) := by
                    have hcase : j = 0 ∨ j = 1 := by omega
                    rcases hcase with rfl | rfl
                    · exact ⟨5, 192, rfl, rfl, rfl⟩
                    · exact ⟨6, 200, rfl, rfl, rfl⟩
                  have hc : V4.cell? ⟨V3.heap.size, j, none⟩ = some (.int .i64 (alu : Int)) := cell_of_heap hG hga
                  have HHC := Lib.hid hhc
                  have HFS := Lib.hid hfs
                  clear hga hhc hfs
                  go_wp2_with fail
                  refine reg21_1 w0 _ t _ ht0 c0 c1 c2 _ (by simp; omega) hT alu code j 2 (by omega) _ hH HHC.out _ _ _ _ _ _ _ _ _ _ _ _ _ _ _ _ _ _ _ _ _ _ _ _ _ _ _ _ _ _ _ _ _ _ _ _ _ _ _ _ _ _ _ _ _ _ _ _ _ _ _ _ _ _ _ _ _ _ _ _ _ _ _ _ _ _ _ _ _ _ _ _ _ _ _ _ _ _ _ _ _ _ _ _ _ _ _ _ _ _ _ _ _ _ _ _ _ _ _ _ _ _ _ _ _ _ _ _ _ ?_
                  intro x0 x1 x2 x3 x4 x5 x6 x7 x8 x9 x10 x11 x12 x13 x14 x15 x16 x17 x18 x19 x20 W2 hT2 hK2
                  rw [HFS.out] at hT2
                  have hKn := KT.trans hK hK2
                  have hRn := hK2.keep _ _ hR (by decide)
                  have hGn := hK2.keep _ _ hG (by decide)
                  have hHn := hK2.keep _ _ hH (by decide)
                  clear hc hT hK hR hG hH hK2
                  go_wp2_with fail
                  go_roundw
                  case rel => exact ⟨j + 1, _, rfl, by omega, by go_num, hT2, hKn, hRn, hGn, hHn⟩
                  case measure => simp [intOf]; omega
                · obtain rfl : j = 2 := by omega
                  go_wp2_with fail
                  go_roundw
                  case rel => ((repeat apply Exists.intro); exact ⟨⟨2, _, rfl, by omega, rfl, hT, hK, hR⟩, rfl⟩)
                  case measure => simp [intOf]
            · have hc : V3.cell? ⟨V2.heap.size, 2, none⟩ = some (.int .i64 16) := cell_of_heap hR rfl
              have hRG := heap_old (Obj.cells #[.int .u8 224, .int .u8 232] 5) (heap_old (Obj.cells #[.int .i64 9, .int .i64 10] 3) hR)
              have hG : ((V3.alloc (Obj.cells #[.int .i64 9, .int .i64 10] 3)).alloc (Obj.cells #[.int .u8 224, .int .u8 232] 5)).heap[V3.heap.size]? = some (Obj.cells #[.int .i64 9, .int .i64 10] 3) := heap_old _ (heap_new _ _)
              have hH : ((V3.alloc (Obj.cells #[.int .i64 9, .int .i64 10] 3)).alloc (Obj.cells #[.int .u8 224, .int .u8 232] 5)).heap[V3.heap.size + 1]? = some (Obj.cells #[.int .u8 224, .int .u8 232] 5) := heap_at (by simp) rfl
              have hTG : TabIs w0 ((V3.alloc (Obj.cells #[.int .i64 9, .int .i64 10] 3)).alloc (Obj.cells #[.int .u8 224, .int .u8 232] 5)) t c0 c1 c2 (FORMS.take (31 + 0)) := (hT.alloc _).alloc _
              have hKG := (hK.alloc (Obj.cells #[.int .i64 9, .int .i64 10] 3)).alloc (Obj.cells #[.int .u8 224, .int .u8 232] 5)
              clear hT hK hR
              go_wp2_with (go_at_call 17; refine (group16 _).mono ?_; rintro e w' ⟨rfl, rfl⟩)
              clear hc
              go_loopw [86] (fun i wr => ∃ (k : Nat) (V : World), V = wr ∧ k ≤ 2 ∧ i = .int .i64 k ∧ TabIs w0 wr t c0 c1 c2 (FORMS.take (31 + k)) ∧ KT [some 69, some 90] w wr ∧ wr.heap[V2.heap.size]? = some (Obj.cells #[.int .i64 14, .int .i64 15, .int .i64 16] 3) ∧ wr.heap[V3.heap.size]? = some (Obj.cells #[.int .i64 9, .int .i64 10] 3) ∧ wr.heap[V3.heap.size + 1]? = some (Obj.cells #[.int .u8 224, .int .u8 232] 5)) (fun i _ => 2 - (intOf i).toNat)
              case atStart => exact ⟨0, _, rfl, by omega, rfl, hTG, hKG, hRG, hG, hH⟩
              case round =>
                obtain ⟨j, V4, rfl, hj, rfl, hT, hK, hR, hG, hH⟩ := hrel
                by_cases hlt : j < 2
                · obtain ⟨alu, code, hga, hhc, hfs⟩ : ∃ alu code : Nat, (#[.int .i64 9, .int .i64 10] : Array Value)[j]? = some (.int .i64 (alu : Int)) ∧ (#[.int .u8 224, .int .u8 232] : Array Value)[j]? = some (.int .u8 (code : Int)) ∧ FORMS.take (31 + j) ++ [{ steps := [(254, 72), (255, 193), (248, code)], more := 1, op := 16, alu := alu, cc := 0 }] = FORMS.take (31 + (j + 1)) := by
                    have hcase : j = 0 ∨ j = 1 := by omega
                    rcases hcase with rfl | rfl
                    · exact ⟨9, 224, rfl, rfl, rfl⟩
                    · exact ⟨10, 232, rfl, rfl, rfl⟩
                  have hc : V4.cell? ⟨V3.heap.size, j, none⟩ = some (.int .i64 (alu : Int)) := cell_of_heap hG hga
                  have HHC := Lib.hid hhc
                  have HFS := Lib.hid hfs
                  clear hga hhc hfs
                  go_wp2_with fail
                  refine reg21_2 w0 _ t _ ht0 c0 c1 c2 _ (by simp; omega) hT alu code j 2 (by omega) _ hH HHC.out _ _ _ _ _ _ _ _ _ _ _ _ _ _ _ _ _ _ _ _ _ _ _ _ _ _ _ _ _ _ _ _ _ _ _ _ _ _ _ _ _ _ _ _ _ _ _ _ _ _ _ _ _ _ _ _ _ _ _ _ _ _ _ _ _ _ _ _ _ _ _ _ _ _ _ _ _ _ _ _ _ _ _ _ _ _ _ _ _ _ _ _ _ _ _ _ _ _ _ _ _ _ _ _ _ _ _ _ _ ?_
                  intro x0 x1 x2 x3 x4 x5 x6 x7 x8 x9 x10 x11 x12 x13 x14 x15 x16 x17 x18 x19 x20 W2 hT2 hK2
                  rw [HFS.out] at hT2
                  have hKn := KT.trans hK hK2
                  have hRn := hK2.keep _ _ hR (by decide)
                  have hGn := hK2.keep _ _ hG (by decide)
                  have hHn := hK2.keep _ _ hH (by decide)
                  clear hc hT hK hR hG hH hK2
                  go_wp2_with fail
                  go_roundw
                  case rel => exact ⟨j + 1, _, rfl, by omega, by go_num, hT2, hKn, hRn, hGn, hHn⟩
                  case measure => simp [intOf]; omega
                · obtain rfl : j = 2 := by omega
                  go_wp2_with fail
                  go_roundw
                  case rel => ((repeat apply Exists.intro); exact ⟨⟨3, _, rfl, by omega, rfl, hT, hK, hR⟩, rfl⟩)
                  case measure => simp [intOf]
            · go_wp2_with fail
              go_end0
              exact ⟨rfl, hT, hK⟩
end Go.Proofs.Ytegnmnhdpnmnpaa
