/- dec.Ok, walked. -/
import Derived.Deep.RegionHeld3
import Derived.Deep.DeepCutAuto
import Derived.Deep.Light
import Derived.Deep.QuietTactic
import Derived.BigQuiet
import Derived.Laws.StructEq
import Derived.Test.YtegnmnhdpnmnpaaOk2
namespace Go.Proofs.Ytegnmnhdpnmnpaa
set_option linter.unusedVariables false
set_option linter.unusedSimpArgs false
open Go.RowKit
set_option maxRecDepth 100000 in
set_option maxHeartbeats 4000000 in
theorem ok_A (x : Ins) (hop : x.op = 1 ∨ x.op = 2 ∨ x.op = 3 ∨ x.op = 4 ∨ x.op = 5 ∨ x.op = 6) (w : World) :
    Calls Try.prog 13 #[.agg x.row] w fun e w' => e = .returned (.bool (okB x)) ∧ Fr [] w w' := by
  obtain ⟨RES, hRES⟩ : ∃ RES, okB x = RES := ⟨_, rfl⟩
  rw [hRES]
  have HRES := Lib.hid hRES
  clear hRES
  obtain ⟨op, a, b, alu, cc, imm, disp⟩ := x
  have Hop := Lib.hid hop
  clear hop
  unfold Ins.row
  simp only
  obtain ⟨R, hR⟩ : ∃ R, (regB a && regB b) = R := ⟨_, rfl⟩
  have HR := Lib.hid hR
  clear hR
  go_enter Try.func13, Try.ntmps13
  go_upto_region 2 with fail
  go_cut [4] (fun s4 wx => s4 = .bool R ∧ Fr [] w wx ∧ wx.heap[w.heap.size]? = some (.cells #[.int .i64 op, .int .i64 a, .int .i64 b, .int .i64 alu, .int .i64 cc, .int .u64 imm, .int .i64 disp] 24 (0, 0)) ∧
      wx.heap[w.heap.size + 1]? = some (.cells #[.int .i64 op, .int .i64 0, .int .i64 0, .int .i64 0, .int .i64 0, .int .u64 0, .int .i64 0] 24 (0, 0)) ∧ wx.heap.size = w.heap.size + 1 + 1)
  case first =>
    go_wp2_with (go_at_call 24; refine (bad_any _ _).mono ?_; rintro e w' ⟨rfl, rfl⟩)
    all_goals go_meet
    all_goals refine ⟨?_, ((Fr.refl [] w).alloc _).alloc _, heap_old _ (heap_new _ _), by simpa using heap_new (w.alloc _) _, by simp⟩
    all_goals (rw [← HR.out]; simp_all [regB] <;> omega)
  case rest =>
    obtain ⟨rfl, hfr, hB, hB1, hsz⟩ := hcut
    have key : ∀ o, IntCells ((wc.alloc (intRow (groupOps op))).alloc o) (w.heap.size + 1 + 1) (groupOps op) := fun o => by
      rw [← hsz]; exact (intRow_cells _ _).fr ((Fr.refl [] _).alloc o) (by simp)
    have z0 := (cells7 hB).1
    go_upto_region 4 with (go_at_call 17; refine (group_any _ _).mono ?_; rintro e w' ⟨rfl, rfl⟩)
    refine wp_world (fun W => Fr [] w W ∧ W.heap[w.heap.size]? = some (.cells #[.int .i64 op, .int .i64 a, .int .i64 b, .int .i64 alu, .int .i64 cc, .int .u64 imm, .int .i64 disp] 24 (0, 0)) ∧
      W.heap[w.heap.size + 1]? = some (.cells #[.int .i64 op, .int .i64 0, .int .i64 0, .int .i64 0, .int .i64 0, .int .u64 0, .int .i64 0] 24 (0, 0)) ∧ IntCells W (w.heap.size + 1 + 1) (groupOps op))
      ⟨(hfr.alloc _).alloc _, heap_old _ (heap_old _ hB), heap_old _ (heap_old _ hB1), key _⟩ ?_
    rintro W ⟨hfr2, hX, hY, hG⟩
    obtain ⟨x0, x1, x2, x3, x4, x5, x6, xf⟩ := cells7 hX
    obtain ⟨y0, y1, y2, y3, y4, y5, y6, yf⟩ := cells7 hY
    have HG := Lib.hid hG
    have hlt1 : w.heap.size < W.heap.size := lt_of_heap hX
    have hlt2 : w.heap.size + 1 < W.heap.size := lt_of_heap hY
    clear hX hY hfr hB hB1 hsz hG z0 key
    rcases Hop.out with rfl | rfl | rfl | rfl | rfl | rfl
    · have hG := HG.out
      go_wp2_with fail
      all_goals go_ret
      all_goals go_light
      all_goals refine ⟨?_, ?_⟩
      all_goals first
        | ((repeat' (with_reducible (first | apply Fr.drew | apply Fr.drewN | apply Fr.alloc | exact hfr2 | apply Fr.setCell)))
           all_goals (right; first | (simp; done) | (simp; omega)); done)
        | skip
      all_goals (rw [← HRES.out]; have hr0 := HR.out; simp [okB, okCond, okRest, HR.out, *] <;> first | (simp_all [regB]; done) | (intros; omega))
    · have hG := HG.out
      go_wp2_with fail
      all_goals go_ret
      all_goals go_light
      all_goals refine ⟨?_, ?_⟩
      all_goals first
        | ((repeat' (with_reducible (first | apply Fr.drew | apply Fr.drewN | apply Fr.alloc | exact hfr2 | apply Fr.setCell)))
           all_goals (right; first | (simp; done) | (simp; omega)); done)
        | skip
      all_goals (rw [← HRES.out]; have hr0 := HR.out; simp [okB, okCond, okRest, HR.out, *] <;> first | (simp_all [regB]; done) | (intros; omega))
    · have hG := HG.out
      go_wp2_with fail
      all_goals go_ret
      all_goals go_light
      all_goals refine ⟨?_, ?_⟩
      all_goals first
        | ((repeat' (with_reducible (first | apply Fr.drew | apply Fr.drewN | apply Fr.alloc | exact hfr2 | apply Fr.setCell)))
           all_goals (right; first | (simp; done) | (simp; omega)); done)
        | skip
      all_goals (rw [← HRES.out]; have hr0 := HR.out; simp [okB, okCond, okRest, HR.out, *] <;> first | (simp_all [regB]; done) | (intros; omega))
    · have hG := HG.out
      go_wp2_with fail
      all_goals go_ret
      all_goals go_light
      all_goals refine ⟨?_, ?_⟩
      all_goals first
        | ((repeat' (with_reducible (first | apply Fr.drew | apply Fr.drewN | apply Fr.alloc | exact hfr2 | apply Fr.setCell)))
           all_goals (right; first | (simp; done) | (simp; omega)); done)
        | skip
      all_goals (rw [← HRES.out]; have hr0 := HR.out; simp [okB, okCond, okRest, HR.out, *] <;> first | (simp_all [regB]; done) | (intros; omega))
    · have hG := HG.out
      go_wp2_with fail
      (first | go_region_held3 (fun w' => w'.cell? ⟨w.heap.size, 1, none⟩ = some (.int .i64 a) ∧ w'.cell? ⟨w.heap.size, 2, none⟩ = some (.int .i64 b) ∧ w'.cell? ⟨w.heap.size, 3, none⟩ = some (.int .i64 alu) ∧ w'.cell? ⟨w.heap.size, 4, none⟩ = some (.int .i64 cc) ∧ w'.cell? ⟨w.heap.size, 5, none⟩ = some (.int .u64 imm) ∧ w'.cell? ⟨w.heap.size, 6, none⟩ = some (.int .i64 disp)) ((refine ⟨?_, ?_, ?_, ?_, ?_, ?_⟩ <;> (refine Fr.cell (S := [w.heap.size + 1]) (w := W) ?_ (by first | exact x1 | exact x2 | exact x3 | exact x4 | exact x5 | exact x6) (by simp); (repeat' (with_reducible (first | apply Fr.drew | apply Fr.alloc | exact Fr.refl _ _ | apply Fr.setCell))); all_goals (left; simp)))) (fail) | fail)
      go_wp2_with fail
      all_goals go_ret
      all_goals go_light
      all_goals refine ⟨?_, ?_⟩
      all_goals first
        | ((repeat' (with_reducible (first | apply Fr.drew | apply Fr.drewN | apply Fr.alloc | exact hfr2 | apply Fr.setCell)))
           all_goals (right; first | (simp; done) | (simp; omega)); done)
        | skip
      all_goals (rw [← HRES.out]; have hr0 := HR.out; simp [okB, okCond, okRest, HR.out, *] <;> first | (simp_all [regB]; done) | (intros; omega))
    · have hG := HG.out
      go_wp2_with fail
      (first | go_region_held3 (fun w' => w'.cell? ⟨w.heap.size, 1, none⟩ = some (.int .i64 a) ∧ w'.cell? ⟨w.heap.size, 2, none⟩ = some (.int .i64 b) ∧ w'.cell? ⟨w.heap.size, 3, none⟩ = some (.int .i64 alu) ∧ w'.cell? ⟨w.heap.size, 4, none⟩ = some (.int .i64 cc) ∧ w'.cell? ⟨w.heap.size, 5, none⟩ = some (.int .u64 imm) ∧ w'.cell? ⟨w.heap.size, 6, none⟩ = some (.int .i64 disp)) ((refine ⟨?_, ?_, ?_, ?_, ?_, ?_⟩ <;> (refine Fr.cell (S := [w.heap.size + 1]) (w := W) ?_ (by first | exact x1 | exact x2 | exact x3 | exact x4 | exact x5 | exact x6) (by simp); (repeat' (with_reducible (first | apply Fr.drew | apply Fr.alloc | exact Fr.refl _ _ | apply Fr.setCell))); all_goals (left; simp)))) (fail) | fail)
      go_wp2_with fail
      all_goals go_ret
      all_goals go_light
      all_goals refine ⟨?_, ?_⟩
      all_goals first
        | ((repeat' (with_reducible (first | apply Fr.drew | apply Fr.drewN | apply Fr.alloc | exact hfr2 | apply Fr.setCell)))
           all_goals (right; first | (simp; done) | (simp; omega)); done)
        | skip
      all_goals (rw [← HRES.out]; have hr0 := HR.out; simp [okB, okCond, okRest, HR.out, *] <;> first | (simp_all [regB]; done) | (intros; omega))
end Go.Proofs.Ytegnmnhdpnmnpaa
