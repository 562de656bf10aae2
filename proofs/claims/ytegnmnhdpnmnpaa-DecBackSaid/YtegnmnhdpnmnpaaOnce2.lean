/- sync.Once.Do over Table.fill. -/
import Derived.Test.YtegnmnhdpnmnpaaOnce
import Derived.Test.YtegnmnhdpnmnpaaFillTwo
namespace Go.Proofs.Ytegnmnhdpnmnpaa
set_option linter.unusedVariables false
set_option linter.unusedSimpArgs false
open Go.RowKit

theorem TabIs.set {w0 w : World} {t : Nat} {c0 c1 c2 : Value} {fs : List Form} (h : TabIs w0 w t c0 c1 c2 fs) (x : Value) : TabIs w0 (w.setCell ⟨t, 0, none⟩ x) t x c1 c2 fs ∧ TabIs w0 (w.setCell ⟨t, 1, none⟩ x) t c0 x c2 fs := by
  obtain ⟨v, h1, h2, h3⟩ := h
  have key : ∀ i : Nat, Fr [t] w (w.setCell ⟨t, i, none⟩ x) := fun i => (Fr.refl [t] w).setCell (.inl (by simp)) x
  have hf : ∀ i : Nat, FormsAt w0.heap.size (w.setCell ⟨t, i, none⟩ x) v fs := fun i => by
    obtain ⟨bs, hl, hown, hst⟩ := h2
    refine ⟨bs, hl, ⟨hown.1, ?_⟩, fun j h1' h2' => ⟨(hst j h1' h2').1, (key i).heap (hst j h1' h2').2 (fun hk => ?_)⟩⟩
    · rcases hown.2 with hn | ⟨g, cap, cur, hv, hg, hh, r⟩
      · exact .inl hn
      · refine .inr ⟨g, cap, cur, hv, hg, (key i).heap hh (fun hk => ?_), r⟩
        simp at hk
        subst hk
        rw [h1] at hh
        simp at hh
    · have h2'' := (hst j h1' h2').2
      simp at hk
      rw [hk, h1] at h2''
      simp at h2''
  constructor
  · refine ⟨v, ?_, hf 0, h3.trans (key 0)⟩
    simp only [World.setCell, Array.getElem?_modify, h1]
    simp
  · refine ⟨v, ?_, hf 1, h3.trans (key 1)⟩
    simp only [World.setCell, Array.getElem?_modify, h1]
    simp

theorem TabIs.ktset {w0 w w1 : World} {t : Nat} {c0 c1 c2 : Value} {fs : List Form} (h : TabIs w0 w1 t c0 c1 c2 fs) (k : KT [some 69, some 90] w w1) (i : Nat) (x : Value) : KT [some 69, some 90] w (w1.setCell ⟨t, i, none⟩ x) := by
  obtain ⟨v, h1, h2, h3⟩ := h
  exact k.setCell h1 (by simp [otag]) x

theorem TabIs.cells {w0 w : World} {t : Nat} {c0 c1 c2 : Value} {fs : List Form} (h : TabIs w0 w t c0 c1 c2 fs) :
    w.cell? ⟨t, 0, none⟩ = some c0 ∧ w.cell? ⟨t, 1, none⟩ = some c1 ∧ w.cell? ⟨t, 2, none⟩ = some c2 ∧ ∀ i, w.frozen? ⟨t, i, none⟩ = false := by
  obtain ⟨v, h1, h2, h3⟩ := h
  exact ⟨cell_of_heap h1 rfl, cell_of_heap h1 rfl, cell_of_heap h1 rfl, fun _ => frozen_of_heap h1⟩

set_option maxRecDepth 100000 in
set_option maxHeartbeats 1600000 in
theorem slow_any (w0 w : World) (t : Nat) (ht0 : t < w0.heap.size) (c2 : Value) (hT : TabIs w0 w t (.int .u32 0) (.int .i32 0) c2 []) :
    Calls Try.prog 52 #[.pointer (some ⟨t, 0, none⟩), .func (.func 44) #[.pointer (some ⟨t, 0, none⟩)] #[]] w fun e w' => e = .returned (.tuple #[]) ∧
      TabIs w0 w' t (.int .u32 1) (.int .i32 0) c2 FORMS ∧ KT [some 69, some 90] w w' := by
  obtain ⟨q0, q1, q2, qf⟩ := hT.cells
  have hT1 := (hT.set (.int .i32 1)).2
  obtain ⟨r0, r1, r2, rf⟩ := hT1.cells
  have hl := run_call_load (P := Try.prog) Try.func57 (by kernel_rfl) (by kernel_rfl) (by kernel_rfl) .u32 (by kernel_rfl) (w := w.setCell ⟨t, 1, none⟩ (.int .i32 1)) (a := ⟨t, 0, none⟩) (x := 0) r0
  have hnot : ∀ (x : Bool) (w : World), (Op.unary .not (.bool x)).run Try.prog w = .ok (.bool (!x)) w := fun _ _ => rfl
  have HT := Lib.hid hT
  have HT1 := Lib.hid hT1
  clear hT hT1 r0 r1 r2 rf
  go_enter_defers Try.func52, Try.ntmps52
  go_wp2_with (first | (go_at_call 58; refine (lock_free ⟨t, 1, none⟩ _ q1 (qf 1)).mono ?_; rintro e w' ⟨rfl, rfl⟩) | (go_at_call 51; go_in))
  refine (fill_any w0 _ t ht0 _ _ _ HT1.out).mono ?_
  rintro e W1 ⟨rfl, hT2, hk2⟩
  have hK1 : KT [some 69, some 90] w W1 := (HT.out.ktset (KT.refl _ _) 1 _).trans hk2
  go_wp2
  obtain ⟨p0, p1, p2, pf⟩ := hT2.cells
  refine leaves_cons (f := 60) (args := #[.pointer (some ⟨t, 0, none⟩), .bool true]) (by simp) (by simp [go_sem]) ?_
  refine (store_deferred ⟨t, 0, none⟩ (.int .u32 0) .returning _ p0 (pf 0)).mono ?_
  rintro e u' w'' ⟨rfl, rfl, rfl⟩
  have hT3 := (hT2.drew.set (.int .u32 1)).1
  have hK3 := hT2.drew.ktset hK1.drew 0 (.int .u32 1)
  obtain ⟨r0, r1, r2, rf⟩ := hT3.cells
  refine leaves_cons (f := 59) (args := #[.pointer (some ⟨t, 1, none⟩)]) (by simp [settle]) (by simp [go_sem]) ?_
  refine (unlock_deferred ⟨t, 1, none⟩ _ _ r1 (rf 1)).mono ?_
  rintro e u' w'' ⟨rfl, rfl, rfl⟩
  have hT4 := (hT3.set (.int .i32 0)).2
  have hK4 := hT3.ktset hK3 1 (.int .i32 0)
  simp [Leaves, settle, results, Try.results52]
  exact ⟨hT4, hK4⟩

/-- Once.Do, the first time: the table is filled. -/
theorem do_first (w0 w : World) (t : Nat) (ht0 : t < w0.heap.size) (c2 : Value) (hT : TabIs w0 w t (.int .u32 0) (.int .i32 0) c2 []) :
    Calls Try.prog 43 #[.pointer (some ⟨t, 0, none⟩), .func (.func 44) #[.pointer (some ⟨t, 0, none⟩)] #[]] w fun e w' => e = .returned (.tuple #[]) ∧
      TabIs w0 w' t (.int .u32 1) (.int .i32 0) c2 FORMS ∧ KT [some 69, some 90] w w' := by
  obtain ⟨q0, q1, q2, qf⟩ := hT.cells
  have hl := run_call_load (P := Try.prog) Try.func57 (by kernel_rfl) (by kernel_rfl) (by kernel_rfl) .u32 (by kernel_rfl) (w := w) (a := ⟨t, 0, none⟩) (x := 0) q0
  have hnot : ∀ (x : Bool) (w : World), (Op.unary .not (.bool x)).run Try.prog w = .ok (.bool (!x)) w := fun _ _ => rfl
  go_enter Try.func43, Try.ntmps43
  go_wp2_with (first | (go_at_call 51; go_in) | (go_at_call 52; refine (slow_any w0 _ t ht0 c2 hT).mono ?_; rintro e W1 ⟨rfl, hT1, hK1⟩))
  go_end0
  exact ⟨rfl, hT1, hK1⟩
end Go.Proofs.Ytegnmnhdpnmnpaa
