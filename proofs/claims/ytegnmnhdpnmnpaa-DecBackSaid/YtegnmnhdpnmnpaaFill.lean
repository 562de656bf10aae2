/- The table's forms are made: plain, one, two, fill. -/
import Derived.Test.YtegnmnhdpnmnpaaTab
import Derived.Test.YtegnmnhdpnmnpaaDecForms
import Derived.Test.YtegnmnhdpnmnpaaOk
namespace Go.Proofs.Ytegnmnhdpnmnpaa
set_option linter.unusedVariables false
set_option linter.unusedSimpArgs false
open Go.RowKit

theorem TabIs.size {w0 w : World} {t : Nat} {c0 c1 c2 : Value} {fs : List Form} (h : TabIs w0 w t c0 c1 c2 fs) : w0.heap.size ≤ w.heap.size := by
  obtain ⟨v, h1, h2, h3⟩ := h
  exact h3.size

theorem heap_at {w : World} {o o1 : Obj} {k : Nat} (hk : k = w.heap.size) (ho : o = o1) : (w.alloc o).heap[k]? = some o1 := by subst hk; subst ho; exact heap_new w o

theorem is_any (v : Int) (w : World) :
    Calls Try.prog 62 #[.int .u8 v] w fun e w' => e = .returned (.agg #[.int .u8 255, .int .u8 v]) ∧ w.alloc (.cells #[.int .u8 255, .int .u8 v] 99) = w' := by
  go_enter Try.func62, Try.ntmps62
  go_wp2
  refine ⟨rfl, ?_⟩
  simp only [results, Try.results62]
  simp [go_sem]

theorem cells2 {w : World} {g : Nat} {a b : Value} {t : TypeId} (h : w.heap[g]? = some (.cells #[a, b] t (0, 0))) : w.cell? ⟨g, 0, none⟩ = some a ∧ w.cell? ⟨g, 1, none⟩ = some b := ⟨cell_of_heap h rfl, cell_of_heap h rfl⟩
theorem heap_drew {w : World} {k : Nat} {o : Obj} (h : w.heap[k]? = some o) : w.drew.heap[k]? = some o := h
theorem heap_drewN {w : World} {k n : Nat} {o : Obj} (h : w.heap[k]? = some o) : (w.drewN n).heap[k]? = some o := h

set_option maxRecDepth 100000 in
set_option maxHeartbeats 8000000 in
theorem plain_any (w0 w : World) (t : Nat) (ht0 : t < w0.heap.size) (c0 c1 c2 : Value) (hT0 : TabIs w0 w t c0 c1 c2 []) :
    Calls Try.prog 53 #[.pointer (some ⟨t, 0, none⟩)] w fun e w' => e = .returned (.tuple #[]) ∧ TabIs w0 w' t c0 c1 c2 (FORMS.take 16) ∧ KT [some 69, some 90] w w' := by
  have hK0 : KT [some 69, some 90] w w := KT.refl _ _
  go_enter Try.func53, Try.ntmps53
  go_upto_region 1 with (first | (go_at_call 62; refine (is_any _ _).mono ?_; rintro e w' ⟨rfl, rfl⟩) | (go_at_call 61; refine (add_any w0 _ t ht0 c0 c1 c2 (FORMS.take 0) (by (repeat' (with_reducible (first | apply TabIs.drew | apply TabIs.alloc))); exact hT0) (by decide) { steps := [(255, 144)], more := 0, op := 1, alu := 0, cc := 0 } _ _ _ _ _ (by have hz := TabIs.size hT0; (try simp at hz); (try simp); omega) _ rfl (by refine heap_at ?_ ?_; (focus simp); rfl) rfl rfl rfl rfl).mono ?_; rintro e W1 ⟨rfl, hT1, hk1⟩))
  have hK1 : KT [some 69, some 90] w W1 := KT.trans (by (repeat' (with_reducible (first | apply KT.drew | apply KT.drewN | apply KT.alloc))); exact hK0) hk1
  go_upto_region 2 with (first | (go_at_call 62; refine (is_any _ _).mono ?_; rintro e w' ⟨rfl, rfl⟩) | (go_at_call 61; refine (add_any w0 _ t ht0 c0 c1 c2 (FORMS.take 1) (by (repeat' (with_reducible (first | apply TabIs.drew | apply TabIs.alloc))); exact hT1) (by decide) { steps := [(255, 195)], more := 0, op := 2, alu := 0, cc := 0 } _ _ _ _ _ (by have hz := TabIs.size hT1; (try simp at hz); (try simp); omega) _ rfl (by refine heap_at ?_ ?_; (focus simp); rfl) rfl rfl rfl rfl).mono ?_; rintro e W2 ⟨rfl, hT2, hk2⟩))
  have hK2 : KT [some 69, some 90] w W2 := KT.trans (by (repeat' (with_reducible (first | apply KT.drew | apply KT.drewN | apply KT.alloc))); exact hK1) hk2
  go_upto_region 3 with (first | (go_at_call 62; refine (is_any _ _).mono ?_; rintro e w' ⟨rfl, rfl⟩) | (go_at_call 61; refine (add_any w0 _ t ht0 c0 c1 c2 (FORMS.take 2) (by (repeat' (with_reducible (first | apply TabIs.drew | apply TabIs.alloc))); exact hT2) (by decide) { steps := [(255, 232)], more := 4, op := 17, alu := 0, cc := 0 } _ _ _ _ _ (by have hz := TabIs.size hT2; (try simp at hz); (try simp); omega) _ rfl (by refine heap_at ?_ ?_; (focus simp); rfl) rfl rfl rfl rfl).mono ?_; rintro e W3 ⟨rfl, hT3, hk3⟩))
  have hK3 : KT [some 69, some 90] w W3 := KT.trans (by (repeat' (with_reducible (first | apply KT.drew | apply KT.drewN | apply KT.alloc))); exact hK2) hk3
  go_upto_region 4 with (first | (go_at_call 62; refine (is_any _ _).mono ?_; rintro e w' ⟨rfl, rfl⟩) | (go_at_call 61; refine (add_any w0 _ t ht0 c0 c1 c2 (FORMS.take 3) (by (repeat' (with_reducible (first | apply TabIs.drew | apply TabIs.alloc))); exact hT3) (by decide) { steps := [(255, 233)], more := 4, op := 18, alu := 0, cc := 0 } _ _ _ _ _ (by have hz := TabIs.size hT3; (try simp at hz); (try simp); omega) _ rfl (by refine heap_at ?_ ?_; (focus simp); rfl) rfl rfl rfl rfl).mono ?_; rintro e W4 ⟨rfl, hT4, hk4⟩))
  have hK4 : KT [some 69, some 90] w W4 := KT.trans (by (repeat' (with_reducible (first | apply KT.drew | apply KT.drewN | apply KT.alloc))); exact hK3) hk4
  go_upto_region 5 with (first | (go_at_call 62; refine (is_any _ _).mono ?_; rintro e w' ⟨rfl, rfl⟩) | (go_at_call 61; refine (add_any w0 _ t ht0 c0 c1 c2 (FORMS.take 4) (by (repeat' (with_reducible (first | apply TabIs.drew | apply TabIs.alloc))); exact hT4) (by decide) { steps := [(255, 235)], more := 1, op := 19, alu := 0, cc := 0 } _ _ _ _ _ (by have hz := TabIs.size hT4; (try simp at hz); (try simp); omega) _ rfl (by refine heap_at ?_ ?_; (focus simp); rfl) rfl rfl rfl rfl).mono ?_; rintro e W5 ⟨rfl, hT5, hk5⟩))
  have hK5 : KT [some 69, some 90] w W5 := KT.trans (by (repeat' (with_reducible (first | apply KT.drew | apply KT.drewN | apply KT.alloc))); exact hK4) hk5
  go_upto_region 6 with (first | (go_at_call 62; refine (is_any _ _).mono ?_; rintro e w' ⟨rfl, rfl⟩) | (go_at_call 61; refine (add_any w0 _ t ht0 c0 c1 c2 (FORMS.take 5) (by (repeat' (with_reducible (first | apply TabIs.drew | apply TabIs.alloc))); exact hT5) (by decide) { steps := [(255, 255), (255, 21)], more := 4, op := 21, alu := 0, cc := 0 } _ _ _ _ _ (by have hz := TabIs.size hT5; (try simp at hz); (try simp); omega) _ rfl (by refine heap_at ?_ ?_; (focus simp); rfl) rfl rfl rfl rfl).mono ?_; rintro e W6 ⟨rfl, hT6, hk6⟩))
  have hK6 : KT [some 69, some 90] w W6 := KT.trans (by (repeat' (with_reducible (first | apply KT.drew | apply KT.drewN | apply KT.alloc))); exact hK5) hk6
  go_upto_region 7 with (first | (go_at_call 62; refine (is_any _ _).mono ?_; rintro e w' ⟨rfl, rfl⟩) | (go_at_call 61; refine (add_any w0 _ t ht0 c0 c1 c2 (FORMS.take 6) (by (repeat' (with_reducible (first | apply TabIs.drew | apply TabIs.alloc))); exact hT6) (by decide) { steps := [(255, 255), (255, 37)], more := 4, op := 22, alu := 0, cc := 0 } _ _ _ _ _ (by have hz := TabIs.size hT6; (try simp at hz); (try simp); omega) _ rfl (by refine heap_at ?_ ?_; (focus simp); rfl) rfl rfl rfl rfl).mono ?_; rintro e W7 ⟨rfl, hT7, hk7⟩))
  have hK7 : KT [some 69, some 90] w W7 := KT.trans (by (repeat' (with_reducible (first | apply KT.drew | apply KT.drewN | apply KT.alloc))); exact hK6) hk7
  go_upto_region 8 with (first | (go_at_call 62; refine (is_any _ _).mono ?_; rintro e w' ⟨rfl, rfl⟩) | (go_at_call 61; refine (add_any w0 _ t ht0 c0 c1 c2 (FORMS.take 7) (by (repeat' (with_reducible (first | apply TabIs.drew | apply TabIs.alloc))); exact hT7) (by decide) { steps := [(255, 205)], more := 1, op := 23, alu := 0, cc := 0 } _ _ _ _ _ (by have hz := TabIs.size hT7; (try simp at hz); (try simp); omega) _ rfl (by refine heap_at ?_ ?_; (focus simp); rfl) rfl rfl rfl rfl).mono ?_; rintro e W8 ⟨rfl, hT8, hk8⟩))
  have hK8 : KT [some 69, some 90] w W8 := KT.trans (by (repeat' (with_reducible (first | apply KT.drew | apply KT.drewN | apply KT.alloc))); exact hK7) hk8
  have hR : (W8.alloc (intRow condAll)).heap[W8.heap.size]? = some (intRow condAll) := heap_new _ _
  have hTR : TabIs w0 (W8.alloc (intRow condAll)) t c0 c1 c2 (FORMS.take 8) := hT8.alloc _
  have hKR := hK8.alloc (intRow condAll)
  clear hT0 hK0 hT1 hK1 hT2 hK2 hT3 hK3 hT4 hK4 hT5 hK5 hT6 hK6 hT7 hK7 hT8 hK8 hk1 hk2 hk3 hk4 hk5 hk6 hk7 hk8
  go_wp2_with (go_at_call 29; refine (conds_row _).mono ?_; rintro e w' ⟨rfl, rfl⟩)
  go_loopw [48] (fun i wr => ∃ k : Nat, k ≤ 8 ∧ i = .int .i64 k ∧ TabIs w0 wr t c0 c1 c2 (FORMS.take (8 + k)) ∧ KT [some 69, some 90] w wr ∧ wr.heap[W8.heap.size]? = some (intRow condAll)) (fun i _ => 8 - (intOf i).toNat)
  case atStart => exact ⟨0, by omega, rfl, hTR, hKR, hR⟩
  case round =>
    obtain ⟨k, hk, rfl, hT, hK, hR⟩ := hrel
    have hcase : k = 0 ∨ k = 1 ∨ k = 2 ∨ k = 3 ∨ k = 4 ∨ k = 5 ∨ k = 6 ∨ k = 7 ∨ k = 8 := by omega
    rcases hcase with rfl | rfl | rfl | rfl | rfl | rfl | rfl | rfl | rfl
    · have hc : World.cell? _ ⟨W8.heap.size, 0, none⟩ = some (.int .i64 2) := cell_of_heap hR rfl
      go_wp2_with (first | (go_at_call 62; refine (is_any _ _).mono ?_; rintro e w' ⟨rfl, rfl⟩) | (go_at_call 61; refine (add_any w0 _ t ht0 c0 c1 c2 (FORMS.take 8) (by (repeat' (with_reducible (first | apply TabIs.drew | apply TabIs.alloc))); exact hT) (by decide) { steps := [(255, 114)], more := 1, op := 20, alu := 0, cc := 2 } _ _ _ _ _ (by have hz := TabIs.size hT; (try simp at hz); (try simp); omega) _ rfl (by refine heap_at ?_ ?_; (focus simp); rfl) rfl rfl rfl rfl).mono ?_; rintro e WN ⟨rfl, hTN, hkN⟩))
      have hKn := KT.trans (by (repeat' (with_reducible (first | apply KT.drew | apply KT.drewN | apply KT.alloc))); exact hK) hkN
      have hRn := hkN.keep _ _ (by (repeat' (with_reducible (first | apply heap_old | apply heap_drew | apply heap_drewN))); exact hR) (by decide)
      go_roundw
      case rel => exact ⟨1, by omega, rfl, hTN, hKn, hRn⟩
      case measure => simp [intOf]
    · have hc : World.cell? _ ⟨W8.heap.size, 1, none⟩ = some (.int .i64 3) := cell_of_heap hR rfl
      go_wp2_with (first | (go_at_call 62; refine (is_any _ _).mono ?_; rintro e w' ⟨rfl, rfl⟩) | (go_at_call 61; refine (add_any w0 _ t ht0 c0 c1 c2 (FORMS.take 9) (by (repeat' (with_reducible (first | apply TabIs.drew | apply TabIs.alloc))); exact hT) (by decide) { steps := [(255, 115)], more := 1, op := 20, alu := 0, cc := 3 } _ _ _ _ _ (by have hz := TabIs.size hT; (try simp at hz); (try simp); omega) _ rfl (by refine heap_at ?_ ?_; (focus simp); rfl) rfl rfl rfl rfl).mono ?_; rintro e WN ⟨rfl, hTN, hkN⟩))
      have hKn := KT.trans (by (repeat' (with_reducible (first | apply KT.drew | apply KT.drewN | apply KT.alloc))); exact hK) hkN
      have hRn := hkN.keep _ _ (by (repeat' (with_reducible (first | apply heap_old | apply heap_drew | apply heap_drewN))); exact hR) (by decide)
      go_roundw
      case rel => exact ⟨2, by omega, rfl, hTN, hKn, hRn⟩
      case measure => simp [intOf]
    · have hc : World.cell? _ ⟨W8.heap.size, 2, none⟩ = some (.int .i64 4) := cell_of_heap hR rfl
      go_wp2_with (first | (go_at_call 62; refine (is_any _ _).mono ?_; rintro e w' ⟨rfl, rfl⟩) | (go_at_call 61; refine (add_any w0 _ t ht0 c0 c1 c2 (FORMS.take 10) (by (repeat' (with_reducible (first | apply TabIs.drew | apply TabIs.alloc))); exact hT) (by decide) { steps := [(255, 116)], more := 1, op := 20, alu := 0, cc := 4 } _ _ _ _ _ (by have hz := TabIs.size hT; (try simp at hz); (try simp); omega) _ rfl (by refine heap_at ?_ ?_; (focus simp); rfl) rfl rfl rfl rfl).mono ?_; rintro e WN ⟨rfl, hTN, hkN⟩))
      have hKn := KT.trans (by (repeat' (with_reducible (first | apply KT.drew | apply KT.drewN | apply KT.alloc))); exact hK) hkN
      have hRn := hkN.keep _ _ (by (repeat' (with_reducible (first | apply heap_old | apply heap_drew | apply heap_drewN))); exact hR) (by decide)
      go_roundw
      case rel => exact ⟨3, by omega, rfl, hTN, hKn, hRn⟩
      case measure => simp [intOf]
    · have hc : World.cell? _ ⟨W8.heap.size, 3, none⟩ = some (.int .i64 5) := cell_of_heap hR rfl
      go_wp2_with (first | (go_at_call 62; refine (is_any _ _).mono ?_; rintro e w' ⟨rfl, rfl⟩) | (go_at_call 61; refine (add_any w0 _ t ht0 c0 c1 c2 (FORMS.take 11) (by (repeat' (with_reducible (first | apply TabIs.drew | apply TabIs.alloc))); exact hT) (by decide) { steps := [(255, 117)], more := 1, op := 20, alu := 0, cc := 5 } _ _ _ _ _ (by have hz := TabIs.size hT; (try simp at hz); (try simp); omega) _ rfl (by refine heap_at ?_ ?_; (focus simp); rfl) rfl rfl rfl rfl).mono ?_; rintro e WN ⟨rfl, hTN, hkN⟩))
      have hKn := KT.trans (by (repeat' (with_reducible (first | apply KT.drew | apply KT.drewN | apply KT.alloc))); exact hK) hkN
      have hRn := hkN.keep _ _ (by (repeat' (with_reducible (first | apply heap_old | apply heap_drew | apply heap_drewN))); exact hR) (by decide)
      go_roundw
      case rel => exact ⟨4, by omega, rfl, hTN, hKn, hRn⟩
      case measure => simp [intOf]
    · have hc : World.cell? _ ⟨W8.heap.size, 4, none⟩ = some (.int .i64 8) := cell_of_heap hR rfl
      go_wp2_with (first | (go_at_call 62; refine (is_any _ _).mono ?_; rintro e w' ⟨rfl, rfl⟩) | (go_at_call 61; refine (add_any w0 _ t ht0 c0 c1 c2 (FORMS.take 12) (by (repeat' (with_reducible (first | apply TabIs.drew | apply TabIs.alloc))); exact hT) (by decide) { steps := [(255, 120)], more := 1, op := 20, alu := 0, cc := 8 } _ _ _ _ _ (by have hz := TabIs.size hT; (try simp at hz); (try simp); omega) _ rfl (by refine heap_at ?_ ?_; (focus simp); rfl) rfl rfl rfl rfl).mono ?_; rintro e WN ⟨rfl, hTN, hkN⟩))
      have hKn := KT.trans (by (repeat' (with_reducible (first | apply KT.drew | apply KT.drewN | apply KT.alloc))); exact hK) hkN
      have hRn := hkN.keep _ _ (by (repeat' (with_reducible (first | apply heap_old | apply heap_drew | apply heap_drewN))); exact hR) (by decide)
      go_roundw
      case rel => exact ⟨5, by omega, rfl, hTN, hKn, hRn⟩
      case measure => simp [intOf]
    · have hc : World.cell? _ ⟨W8.heap.size, 5, none⟩ = some (.int .i64 9) := cell_of_heap hR rfl
      go_wp2_with (first | (go_at_call 62; refine (is_any _ _).mono ?_; rintro e w' ⟨rfl, rfl⟩) | (go_at_call 61; refine (add_any w0 _ t ht0 c0 c1 c2 (FORMS.take 13) (by (repeat' (with_reducible (first | apply TabIs.drew | apply TabIs.alloc))); exact hT) (by decide) { steps := [(255, 121)], more := 1, op := 20, alu := 0, cc := 9 } _ _ _ _ _ (by have hz := TabIs.size hT; (try simp at hz); (try simp); omega) _ rfl (by refine heap_at ?_ ?_; (focus simp); rfl) rfl rfl rfl rfl).mono ?_; rintro e WN ⟨rfl, hTN, hkN⟩))
      have hKn := KT.trans (by (repeat' (with_reducible (first | apply KT.drew | apply KT.drewN | apply KT.alloc))); exact hK) hkN
      have hRn := hkN.keep _ _ (by (repeat' (with_reducible (first | apply heap_old | apply heap_drew | apply heap_drewN))); exact hR) (by decide)
      go_roundw
      case rel => exact ⟨6, by omega, rfl, hTN, hKn, hRn⟩
      case measure => simp [intOf]
    · have hc : World.cell? _ ⟨W8.heap.size, 6, none⟩ = some (.int .i64 12) := cell_of_heap hR rfl
      go_wp2_with (first | (go_at_call 62; refine (is_any _ _).mono ?_; rintro e w' ⟨rfl, rfl⟩) | (go_at_call 61; refine (add_any w0 _ t ht0 c0 c1 c2 (FORMS.take 14) (by (repeat' (with_reducible (first | apply TabIs.drew | apply TabIs.alloc))); exact hT) (by decide) { steps := [(255, 124)], more := 1, op := 20, alu := 0, cc := 12 } _ _ _ _ _ (by have hz := TabIs.size hT; (try simp at hz); (try simp); omega) _ rfl (by refine heap_at ?_ ?_; (focus simp); rfl) rfl rfl rfl rfl).mono ?_; rintro e WN ⟨rfl, hTN, hkN⟩))
      have hKn := KT.trans (by (repeat' (with_reducible (first | apply KT.drew | apply KT.drewN | apply KT.alloc))); exact hK) hkN
      have hRn := hkN.keep _ _ (by (repeat' (with_reducible (first | apply heap_old | apply heap_drew | apply heap_drewN))); exact hR) (by decide)
      go_roundw
      case rel => exact ⟨7, by omega, rfl, hTN, hKn, hRn⟩
      case measure => simp [intOf]
    · have hc : World.cell? _ ⟨W8.heap.size, 7, none⟩ = some (.int .i64 13) := cell_of_heap hR rfl
      go_wp2_with (first | (go_at_call 62; refine (is_any _ _).mono ?_; rintro e w' ⟨rfl, rfl⟩) | (go_at_call 61; refine (add_any w0 _ t ht0 c0 c1 c2 (FORMS.take 15) (by (repeat' (with_reducible (first | apply TabIs.drew | apply TabIs.alloc))); exact hT) (by decide) { steps := [(255, 125)], more := 1, op := 20, alu := 0, cc := 13 } _ _ _ _ _ (by have hz := TabIs.size hT; (try simp at hz); (try simp); omega) _ rfl (by refine heap_at ?_ ?_; (focus simp); rfl) rfl rfl rfl rfl).mono ?_; rintro e WN ⟨rfl, hTN, hkN⟩))
      have hKn := KT.trans (by (repeat' (with_reducible (first | apply KT.drew | apply KT.drewN | apply KT.alloc))); exact hK) hkN
      have hRn := hkN.keep _ _ (by (repeat' (with_reducible (first | apply heap_old | apply heap_drew | apply heap_drewN))); exact hR) (by decide)
      go_roundw
      case rel => exact ⟨8, by omega, rfl, hTN, hKn, hRn⟩
      case measure => simp [intOf]
    · go_wp2_with fail
      go_end0
      exact ⟨rfl, hT, hK⟩

end Go.Proofs.Ytegnmnhdpnmnpaa
