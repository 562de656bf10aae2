/- dec.Decode. -/
import Derived.Test.YtegnmnhdpnmnpaaDecode
namespace Go.Proofs.Ytegnmnhdpnmnpaa
set_option linter.unusedVariables false
set_option linter.unusedSimpArgs false
open Go.RowKit

set_option maxRecDepth 100000 in
set_option maxHeartbeats 1000000 in
theorem decode_any (w : World) (a : Option Addr) (cap : Nat) (bs : List UInt8) (hb : ByteCells w a bs) (ha : bs ≠ [] → ∀ g o, a = some ⟨g, o, none⟩ → g < w.heap.size)
    (hcap : bs.length ≤ cap) (hcap2 : cap ≤ 9223372036854775807) :
    Calls Try.prog 12 #[.slice a bs.length cap] w fun e w' =>
      e = .returned (.tuple #[.agg (decodeL bs).1.cells, .int .i64 (decodeL bs).2.1, .int .i64 (decodeL bs).2.2]) ∧ Fr [] w w' := by
  have HB := Lib.hid hb
  clear hb
  have TD : ∀ (W : World) (t : Nat) (c2 : Value), Fr [] w W → w.heap.size ≤ t → W.heap[t]? = some (.cells #[.int .u32 0, .int .i32 0, c2, .slice none 0 0] 69 (0, 0)) →
      Calls Try.prog 23 #[.pointer (some ⟨t, 0, none⟩), .slice a bs.length cap] W fun e w' =>
        e = .returned (.tuple #[.agg #[.int .i64 (decodeL bs).1.op, .int .i64 (decodeL bs).1.a, .int .i64 (decodeL bs).1.b, .int .i64 (decodeL bs).1.alu, .int .i64 (decodeL bs).1.cc, .int .u64 (decodeL bs).1.imm, .int .i64 (decodeL bs).1.disp], .int .i64 (decodeL bs).2.1, .int .i64 (decodeL bs).2.2]) ∧ Fr [t] W w' := fun W t c2 hW ht hc =>
    tdecode_any W t c2 ⟨_, hc, FormsAt.nil _ _, Fr.refl _ _⟩ a cap bs (HB.out.fr hW (by simp)) (fun hn g o e => by have := ha hn g o e; omega) hcap hcap2
  obtain ⟨X, hX⟩ : ∃ X, decodeL bs = X := ⟨_, rfl⟩
  rw [hX] at TD
  rw [hX]
  clear hX
  go_enter Try.func12, Try.ntmps12
  go_wp2_with (go_at_call 23; refine (TD _ _ _ (((Fr.refl [] w).alloc _).alloc _) (by simp) (heap_at (by simp) rfl)).mono ?_; rintro e W ⟨rfl, hW⟩; obtain ⟨y0, y1, y2, y3, y4, y5, y6, yf⟩ := cells7 (hW.heap (heap_old _ (heap_new _ _)) (by simp)))
  refine ⟨rfl, ?_⟩
  simp only [results, Try.results12]
  simp [go_sem, y0, y1, y2, y3, y4, y5, y6, yf, Ins.cells]
  repeat' (with_reducible (first | apply Fr.setCell | refine Fr.trans' ?_ hW ?_ | apply Fr.alloc | exact Fr.refl _ _))
  all_goals simp
end Go.Proofs.Ytegnmnhdpnmnpaa
