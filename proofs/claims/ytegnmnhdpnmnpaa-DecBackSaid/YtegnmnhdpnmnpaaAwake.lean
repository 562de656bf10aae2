/- What every law asks besides: awake. -/
import Derived.Laws.StructEq
import Derived.Laws.IdiomStrings
import Derived.Laws.BytesArg
import Derived.Test.YtegnmnhdpnmnpaaEncode
import Derived.Test.YtegnmnhdpnmnpaaDecode2
namespace Go.Proofs.Ytegnmnhdpnmnpaa
set_option linter.unusedVariables false
set_option linter.unusedSimpArgs false
open Go.RowKit

theorem decode_row (w : World) (g : Nat) (bs : List UInt8) (cs : Array Value) (h : w.heap[g]? = some (.cells cs 5 (0, 0))) (hc : cs = (bs.map byteVal).toArray) (hn : bs.length ≤ 1000) (op a b alu cc imm d n z : Int) (hr : decodeL bs = (⟨op, a, b, alu, cc, imm, d⟩, n, z)) :
    Calls Try.prog 12 #[.slice (some ⟨g, 0, none⟩) bs.length bs.length] w fun e w' => e = .returned (.tuple #[.agg #[.int .i64 op, .int .i64 a, .int .i64 b, .int .i64 alu, .int .i64 cc, .int .u64 imm, .int .i64 d], .int .i64 n, .int .i64 z]) ∧ Fr [] w w' := by
  subst hc
  have key := decode_any w (some ⟨g, 0, none⟩) bs.length bs (.inr ⟨g, 0, rfl, fun i hi => by rw [Nat.zero_add]; exact cell_of_heap h (by simp [byteVal, hi])⟩) (fun _ g' o e => by cases e; exact lt_of_heap h) (Nat.le_refl _) (by omega)
  rw [hr] at key
  exact key

/-- string(b). -/
theorem str_of {w : World} {a : Option Addr} {cap : Nat} {bs : List UInt8} (h : ByteCells w a bs) (ha : a = none → bs = []) (src e dst : TypeId) (hs : Try.prog.underlying src = some (.slice e)) (he : Try.prog.underlying e = some (.int .u8)) (hd : Try.prog.underlying dst = some .string) :
    (convert src dst (.slice a bs.length cap)).run Try.prog w = .ok (.string ⟨bs.toArray⟩) w := by
  cases a with
  | none =>
    have := ha rfl
    subst this
    exact run_convert_bytes_nil w src e hs he 0 cap dst hd
  | some p =>
    rcases h with rfl | ⟨g, o, e1, hc⟩
    · exact run_convert_bytes_back w src dst e p cap [] hs he hd (fun j hj => by simp at hj)
    · cases e1
      refine run_convert_bytes_back w src dst e ⟨g, o, none⟩ cap bs hs he hd (fun j hj => ?_)
      have hadd : (⟨g, o, none⟩ : Addr).add j = ⟨g, o + j, none⟩ := by unfold Addr.add; split <;> simp_all
      rw [hadd]
      exact hc j hj
theorem OwnB.str {B : Nat} {w : World} {v : Value} {bs : List UInt8} (h : OwnB B w v bs) : ∃ a cap, v = .slice a bs.length cap ∧ (convert 26 9 v).run Try.prog w = .ok (.string ⟨bs.toArray⟩) w := by
  obtain ⟨a, cap, rfl, hle, hcm, hbc, hg⟩ := h.form
  exact ⟨a, cap, rfl, str_of hbc (fun e => by
    subst e
    rcases hbc with h | ⟨g, o, e, _⟩
    · exact h
    · cases e) _ 5 _ Try.underlying26 Try.underlying5 Try.underlying9⟩

theorem dec_1 : decodeL [72, 1, 200] = (⟨7, 1, 0, 0, 0, 0, 0⟩, 3, 0) := by decide +kernel
theorem dec_2 : decodeL [72] = (⟨0, 0, 0, 0, 0, 0, 0⟩, 0, 2) := by decide +kernel
theorem dec_3 : decodeL [15] = (⟨0, 0, 0, 0, 0, 0, 0⟩, 0, 16) := by decide +kernel

set_option maxRecDepth 100000 in
set_option maxHeartbeats 4000000 in
theorem awake_any (w : World) : Calls Try.prog 11 #[] w fun e w' => e = .returned (.bool true) ∧ Fr [] w w' := by
  have ENC : ∀ W, Calls Try.prog 10 #[.agg #[.int .i64 2, .int .i64 0, .int .i64 0, .int .i64 0, .int .i64 0, .int .u64 0, .int .i64 0]] W fun e w' => ∃ sv, e = .returned (.tuple #[sv, .bool true]) ∧ OwnB W.heap.size w' sv [195] ∧ Fr [] W w' := fun W => by
    have e := encode_any ⟨2, 0, 0, 0, 0, 0, 0⟩ (by decide) (by decide) W
    have h1 : okB ⟨2, 0, 0, 0, 0, 0, 0⟩ = true := by decide +kernel
    rw [if_pos h1, h1] at e
    exact e
  go_enter Try.func11, Try.ntmps11
  go_upto_region 2 with (go_at_call 12; refine (decode_row _ _ [72, 1, 200] _ (heap_at (by simp) rfl) rfl (by decide) _ _ _ _ _ _ _ _ _ dec_1).mono ?_; rintro e W1 ⟨rfl, hf1⟩)
  refine wp_world (fun W => Fr [] w W ∧ W.heap[W1.heap.size]? = some (.cells #[.int .i64 7, .int .i64 1, .int .i64 0, .int .i64 0, .int .i64 0, .int .u64 0, .int .i64 0] 24 (0, 0))) ⟨(((Fr.refl [] w).alloc _).then0 hf1).alloc _, heap_at (by simp) rfl⟩ ?_
  rintro W ⟨hW, hX⟩
  have HX := Lib.hid hX
  clear hX hf1
  go_upto_region 3 with (go_at_call 12; refine (decode_row _ _ [72] _ (heap_at (by simp) rfl) rfl (by decide) _ _ _ _ _ _ _ _ _ dec_2).mono ?_; rintro e W2 ⟨rfl, hf2⟩)
  have HX2 := Lib.hid (heap_old (Obj.cells #[.int .i64 0, .int .i64 0, .int .i64 0, .int .i64 0, .int .i64 0, .int .u64 0, .int .i64 0] 24) (hf2.heap (heap_old _ HX.out) (by simp)))
  have hW2 := ((hW.alloc (Obj.cells #[.int .u8 72] 5)).then0 hf2).alloc (Obj.cells #[.int .i64 0, .int .i64 0, .int .i64 0, .int .i64 0, .int .i64 0, .int .u64 0, .int .i64 0] 24)
  clear HX hW
  go_upto_region 4 with (go_at_call 12; refine (decode_row _ _ [15] _ (heap_at (by simp) rfl) rfl (by decide) _ _ _ _ _ _ _ _ _ dec_3).mono ?_; rintro e W3 ⟨rfl, hf3⟩)
  have HX3 := Lib.hid (heap_old (Obj.cells #[.int .i64 0, .int .i64 0, .int .i64 0, .int .i64 0, .int .i64 0, .int .u64 0, .int .i64 0] 24) (hf3.heap (heap_old _ HX2.out) (by simp)))
  have hW3 := ((hW2.alloc (Obj.cells #[.int .u8 15] 5)).then0 hf3).alloc (Obj.cells #[.int .i64 0, .int .i64 0, .int .i64 0, .int .i64 0, .int .i64 0, .int .u64 0, .int .i64 0] 24)
  clear HX2 hW2
  go_upto_region 5 with (go_at_call 10; refine (ENC _).mono ?_; rintro e W4 ⟨sv, rfl, hown, hf4⟩)
  obtain ⟨a, cap, rfl, hcv⟩ := hown.str
  change (convert 26 9 (.slice a 1 cap)).run Try.prog W4 = .ok (.string ⟨#[195]⟩) W4 at hcv
  obtain ⟨x0, x1, x2, x3, x4, x5, x6, xf⟩ := cells7 (hf4.heap HX3.out (by simp))
  have hW4 := Lib.hid (hW3.then0 hf4)
  clear HX3 hW3 ENC hf2 hf3 hf4 hown xf
  go_wp2_with fail
  go_ret
  exact ⟨rfl, hW4.out⟩
end Go.Proofs.Ytegnmnhdpnmnpaa
