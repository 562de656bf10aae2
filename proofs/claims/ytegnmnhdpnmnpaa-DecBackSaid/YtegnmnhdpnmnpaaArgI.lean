/- An instruction that came in: its seven numbers. -/
import Derived.Test.YtegnmnhdpnmnpaaRows
import Derived.WalkKit
import Derived.ProofKit
import Derived.OpenShut
import Derived.ChangeOld
import Derived.Below
import Derived.Lib.SmallJoins
import Derived.Deep.Slices
import Derived.Deep.Fields
import Derived.ChangeSame
namespace Go.Proofs.Ytegnmnhdpnmnpaa
set_option linter.unusedVariables false
set_option linter.unusedSimpArgs false
open Go.Joins Go.ChangeShapes Go.WideShapes Go.ChangeAt Go.RowKit Go.Deep

set_option maxRecDepth 100000 in
theorem argI_open {H : Type} {enc : TypeId × Value → H} {w : World} {r : Reach} {b0 : Nat} {v : Value} {d : DataW H} {p : List MemPlace}
    (hv : Value.okWide Try.prog w r b0 24 v) (h : DataW.Trod enc Try.prog w 0 (fun _ => true) true 24 v d p) :
    ∃ op a b alu cc imm di : Int, v = .agg #[.int .i64 op, .int .i64 a, .int .i64 b, .int .i64 alu, .int .i64 cc, .int .u64 imm, .int .i64 di] ∧ 0 ≤ imm ∧ imm < 18446744073709551616 := by
  obtain ⟨f0, f1, f2, f3, f4, f5, f6, hs, hone, q0, q1, q2, q3, q4, q5, q6⟩ : ∃ f0 f1 f2 f3 f4 f5 f6 : Field, Try.prog.underlying 24 = some (.struct #[f0, f1, f2, f3, f4, f5, f6]) ∧ oneCellFields Try.prog #[f0, f1, f2, f3, f4, f5, f6] = true ∧
      f0.type = 3 ∧ f1.type = 3 ∧ f2.type = 3 ∧ f3.type = 3 ∧ f4.type = 3 ∧ f5.type = 22 ∧ f6.type = 3 := ⟨_, _, _, _, _, _, _, Try.underlying24, by kernel_rfl, rfl, rfl, rfl, rfl, rfl, rfl, rfl⟩
  have hC : Try.prog.cellsOf 24 = 7 := by kernel_rfl
  obtain ⟨cs, rfl, hsz⟩ := okWide_struct hs hv
  obtain ⟨l⟩ := cs
  match l, hsz.trans hC with
  | [c0, c1, c2, c3, c4, c5, c6], _ =>
    obtain ⟨fuel, hf⟩ := h
    obtain ⟨xs, n, _, hx, _, hlen, hg⟩ := DataW.trod_struct hs hf
    obtain ⟨o0, k0⟩ := hone_of hone 0 f0 rfl
    obtain ⟨o1, k1⟩ := hone_of hone 1 f1 rfl
    obtain ⟨o2, k2⟩ := hone_of hone 2 f2 rfl
    obtain ⟨o3, k3⟩ := hone_of hone 3 f3 rfl
    obtain ⟨o4, k4⟩ := hone_of hone 4 f4 rfl
    obtain ⟨o5, k5⟩ := hone_of hone 5 f5 rfl
    obtain ⟨o6, k6⟩ := hone_of hone 6 f6 rfl
    match xs, hlen with
    | [y0, y1, y2, y3, y4, y5, y6], _ =>
      have t0 : DataW.trod enc Try.prog w 0 (fun _ => true) true n 3 [c0] = some y0 := by rw [← q0]; simpa [Value.cells, o0, k0] using hg 0 f0 rfl
      obtain ⟨n0, e0, _, w0⟩ := DataW.trod_int Try.underlying3 t0
      simp at e0
      have t1 : DataW.trod enc Try.prog w 0 (fun _ => true) true n 3 [c1] = some y1 := by rw [← q1]; simpa [Value.cells, o1, k1] using hg 1 f1 rfl
      obtain ⟨n1, e1, _, w1⟩ := DataW.trod_int Try.underlying3 t1
      simp at e1
      have t2 : DataW.trod enc Try.prog w 0 (fun _ => true) true n 3 [c2] = some y2 := by rw [← q2]; simpa [Value.cells, o2, k2] using hg 2 f2 rfl
      obtain ⟨n2, e2, _, w2⟩ := DataW.trod_int Try.underlying3 t2
      simp at e2
      have t3 : DataW.trod enc Try.prog w 0 (fun _ => true) true n 3 [c3] = some y3 := by rw [← q3]; simpa [Value.cells, o3, k3] using hg 3 f3 rfl
      obtain ⟨n3, e3, _, w3⟩ := DataW.trod_int Try.underlying3 t3
      simp at e3
      have t4 : DataW.trod enc Try.prog w 0 (fun _ => true) true n 3 [c4] = some y4 := by rw [← q4]; simpa [Value.cells, o4, k4] using hg 4 f4 rfl
      obtain ⟨n4, e4, _, w4⟩ := DataW.trod_int Try.underlying3 t4
      simp at e4
      have t5 : DataW.trod enc Try.prog w 0 (fun _ => true) true n 22 [c5] = some y5 := by rw [← q5]; simpa [Value.cells, o5, k5] using hg 5 f5 rfl
      obtain ⟨n5, e5, _, w5⟩ := DataW.trod_int Try.underlying22 t5
      simp at e5
      have t6 : DataW.trod enc Try.prog w 0 (fun _ => true) true n 3 [c6] = some y6 := by rw [← q6]; simpa [Value.cells, o6, k6] using hg 6 f6 rfl
      obtain ⟨n6, e6, _, w6⟩ := DataW.trod_int Try.underlying3 t6
      simp at e6
      subst e0 e1 e2 e3 e4 e5 e6
      have hb : 0 ≤ n5 ∧ n5 ≤ 18446744073709551615 := by
        have h1 : IntKind.u64.min = 0 := rfl
        have h2 : IntKind.u64.max = 18446744073709551615 := rfl
        simp only [Lit.wf, Bool.and_eq_true, decide_eq_true_eq, h1, h2] at w5
        exact w5
      exact ⟨n0, n1, n2, n3, n4, n5, n6, rfl, hb.1, by omega⟩
end Go.Proofs.Ytegnmnhdpnmnpaa
