/- The walk of DecRefuses: what may not be is refused. -/
import Derived.Deep.DeepCutAuto
import Derived.Laws.StructEq
import Derived.Test.YtegnmnhdpnmnpaaLaw
import Derived.Test.YtegnmnhdpnmnpaaTame
namespace Go.Proofs.Ytegnmnhdpnmnpaa
set_option linter.unusedVariables false
set_option linter.unusedSimpArgs false
open Go.RowKit

theorem enc_refused (op a b alu cc imm d : Int) (hok : okB ⟨op, a, b, alu, cc, imm, d⟩ = false) (W : World) :
    Calls Try.prog 10 #[.agg #[.int .i64 op, .int .i64 a, .int .i64 b, .int .i64 alu, .int .i64 cc, .int .u64 imm, .int .i64 d]] W fun e w' => ∃ a2 cap2, e = .returned (.tuple #[.slice a2 0 cap2, .bool false]) ∧ Fr [] W w' := by
  have e := enc_no ⟨op, a, b, alu, cc, imm, d⟩ hok W
  refine e.mono fun e' w' h => ?_
  obtain ⟨sv, rfl, hown, hf⟩ := h
  obtain ⟨a2, cap2, rfl, -⟩ := hown.form
  exact ⟨a2, cap2, rfl, hf⟩
theorem ok_refused (op a b alu cc imm d : Int) (hok : okB ⟨op, a, b, alu, cc, imm, d⟩ = false) (W : World) :
    Calls Try.prog 13 #[.agg #[.int .i64 op, .int .i64 a, .int .i64 b, .int .i64 alu, .int .i64 cc, .int .u64 imm, .int .i64 d]] W fun e w' => e = .returned (.bool false) ∧ Fr [] W w' := by
  have e := ok_any ⟨op, a, b, alu, cc, imm, d⟩ W
  rw [hok] at e
  exact e
theorem ref_0 (a b alu cc imm d : Int) : okB ⟨0, a, b, alu, cc, imm, d⟩ = false := by
  simp [okB]
theorem ref_1 (a b alu cc imm d : Int) : okB ⟨24, a, b, alu, cc, imm, d⟩ = false := by
  simp [okB]
theorem ref_2 (op b alu cc imm d : Int) : okB ⟨op, 16, b, alu, cc, imm, d⟩ = false := by
  simp [okB, regB]
theorem ref_3 (op a alu cc imm d : Int) : okB ⟨op, a, (-1), alu, cc, imm, d⟩ = false := by
  simp [okB, regB]
theorem ref_4 (op a b cc imm d : Int) (h1 : 1 ≤ op) (h2 : op ≤ 23) : okB ⟨op, a, b, 99, cc, imm, d⟩ = false := by
  have hops : op = 1 ∨ op = 2 ∨ op = 3 ∨ op = 4 ∨ op = 5 ∨ op = 6 ∨ op = 7 ∨ op = 8 ∨ op = 9 ∨ op = 10 ∨ op = 11 ∨ op = 12 ∨ op = 13 ∨ op = 14 ∨ op = 15 ∨ op = 16 ∨ op = 17 ∨ op = 18 ∨ op = 19 ∨ op = 20 ∨ op = 21 ∨ op = 22 ∨ op = 23 := by omega
  rcases hops with rfl | rfl | rfl | rfl | rfl | rfl | rfl | rfl | rfl | rfl | rfl | rfl | rfl | rfl | rfl | rfl | rfl | rfl | rfl | rfl | rfl | rfl | rfl
  all_goals first | simp [okB, okCond, okRest, aluAll, groupOps, condAll, wideB, shortB, wrap64]
theorem ref_5 (op a b alu imm d : Int) (h1 : 1 ≤ op) (h2 : op ≤ 23) : okB ⟨op, a, b, alu, 1, imm, d⟩ = false := by
  have hops : op = 1 ∨ op = 2 ∨ op = 3 ∨ op = 4 ∨ op = 5 ∨ op = 6 ∨ op = 7 ∨ op = 8 ∨ op = 9 ∨ op = 10 ∨ op = 11 ∨ op = 12 ∨ op = 13 ∨ op = 14 ∨ op = 15 ∨ op = 16 ∨ op = 17 ∨ op = 18 ∨ op = 19 ∨ op = 20 ∨ op = 21 ∨ op = 22 ∨ op = 23 := by omega
  rcases hops with rfl | rfl | rfl | rfl | rfl | rfl | rfl | rfl | rfl | rfl | rfl | rfl | rfl | rfl | rfl | rfl | rfl | rfl | rfl | rfl | rfl | rfl | rfl
  all_goals first | simp [okB, okCond, okRest, aluAll, groupOps, condAll, wideB, shortB, wrap64]
theorem ref_6 (op a b alu cc imm : Int) (h1 : 1 ≤ op) (h2 : op ≤ 23) : okB ⟨op, a, b, alu, cc, imm, 1099511627776⟩ = false := by
  have hops : op = 1 ∨ op = 2 ∨ op = 3 ∨ op = 4 ∨ op = 5 ∨ op = 6 ∨ op = 7 ∨ op = 8 ∨ op = 9 ∨ op = 10 ∨ op = 11 ∨ op = 12 ∨ op = 13 ∨ op = 14 ∨ op = 15 ∨ op = 16 ∨ op = 17 ∨ op = 18 ∨ op = 19 ∨ op = 20 ∨ op = 21 ∨ op = 22 ∨ op = 23 := by omega
  rcases hops with rfl | rfl | rfl | rfl | rfl | rfl | rfl | rfl | rfl | rfl | rfl | rfl | rfl | rfl | rfl | rfl | rfl | rfl | rfl | rfl | rfl | rfl | rfl
  all_goals first | simp [okB, okCond, okRest, aluAll, groupOps, condAll, wideB, shortB, wrap64]
theorem ref_7 (op a b alu cc d : Int) (h1 : 1 ≤ op) (h2 : op ≤ 23) (h5 : op ≠ 5) : okB ⟨op, a, b, alu, cc, 1099511627776, d⟩ = false := by
  have hops : op = 1 ∨ op = 2 ∨ op = 3 ∨ op = 4 ∨ op = 5 ∨ op = 6 ∨ op = 7 ∨ op = 8 ∨ op = 9 ∨ op = 10 ∨ op = 11 ∨ op = 12 ∨ op = 13 ∨ op = 14 ∨ op = 15 ∨ op = 16 ∨ op = 17 ∨ op = 18 ∨ op = 19 ∨ op = 20 ∨ op = 21 ∨ op = 22 ∨ op = 23 := by omega
  rcases hops with rfl | rfl | rfl | rfl | rfl | rfl | rfl | rfl | rfl | rfl | rfl | rfl | rfl | rfl | rfl | rfl | rfl | rfl | rfl | rfl | rfl | rfl | rfl
  all_goals first | exact absurd rfl h5 | simp [okB, okCond, okRest, aluAll, groupOps, condAll, wideB, shortB, wrap64]

set_option maxRecDepth 100000 in
set_option maxHeartbeats 4000000 in
theorem ref_law (op a b alu cc imm d which : Int) (hi0 : 0 ≤ imm) (hi1 : imm < 18446744073709551616) (w : World) :
    Calls Try.prog 5 #[.agg #[.int .i64 op, .int .i64 a, .int .i64 b, .int .i64 alu, .int .i64 cc, .int .u64 imm, .int .i64 d], .int .i64 which] w fun e w' => e = .returned (.bool true) ∧ Fr [] w w' := by
  have TM := fun W => tame_any op a b alu cc imm d hi0 hi1 W
  clear hi0 hi1
  obtain ⟨Q, hQ, eQ⟩ := and_bd which 7 (by omega)
  change bits .and .i64 which 7 = (Q : Int) at eQ
  go_enter Try.func5, Try.ntmps5
  go_upto_region 2 with (go_at_call 9; refine (TM _).mono ?_; rintro e W1 ⟨⟨xo, xa, xb, xl, xc, xi, xd⟩, rfl, hok, hx0, hx1, hf1⟩; have HOK := Lib.hid hok; clear hok hx0 hx1; simp only [Ins.row])
  have hge := hf1.size
  refine wp_world (fun W => Fr [] w W ∧ W.heap[W1.heap.size]? = some (.cells #[.int .i64 xo, .int .i64 xa, .int .i64 xb, .int .i64 xl, .int .i64 xc, .int .u64 xi, .int .i64 xd] 24 (0, 0))) ⟨(((Fr.refl [] w).alloc _).then0 hf1).alloc _, heap_new _ _⟩ ?_
  rintro W ⟨hW, hX⟩
  clear hf1 TM
  obtain ⟨⟨ho1, ho2⟩, -, -, -, -⟩ := okB_facts HOK.out
  obtain ⟨x0, x1, x2, x3, x4, x5, x6, xf⟩ := cells7 hX
  have HX := Lib.hid hX
  have HW := Lib.hid hW
  have hge1 : w.heap.size ≤ W1.heap.size := by (try simp at hge); omega
  clear hX hW hge HOK
  have hq : Q = 0 ∨ Q = 1 ∨ Q = 2 ∨ Q = 3 ∨ Q = 4 ∨ Q = 5 ∨ Q = 6 ∨ Q = 7 := by omega
  rcases hq with rfl | rfl | rfl | rfl | rfl | rfl | rfl | rfl
  · have ENC := enc_refused 0 xa xb xl xc xi xd (ref_0 xa xb xl xc xi xd)
    have OKC := ok_refused 0 xa xb xl xc xi xd (ref_0 xa xb xl xc xi xd)
    have HXM : Hid ((W.setCell ⟨W1.heap.size, 0, none⟩ (.int .i64 0)).heap[W1.heap.size]? = some (.cells #[.int .i64 0, .int .i64 xa, .int .i64 xb, .int .i64 xl, .int .i64 xc, .int .u64 xi, .int .i64 xd] 24 (0, 0))) := Lib.hid (by simpa using heap_set (i := 0) HX.out (.int .i64 0))
    go_wp2_with (first | (go_at_call 10; refine (ENC _).mono ?_; rintro e W2 ⟨a2, cap2, rfl, hf2⟩; obtain ⟨y0, y1, y2, y3, y4, y5, y6, yf⟩ := cells7 (hf2.heap HXM.out (by simp))) | (go_at_call 13; refine (OKC _).mono ?_; rintro e W3 ⟨rfl, hf3⟩) | (go_at_call 11; refine (awake_any _).mono ?_; rintro e W4 ⟨rfl, hf4⟩))
    go_ret
    exact ⟨rfl, (((HW.out.setCell (.inr hge1) _).then0 hf2).then0 hf3).then0 hf4⟩
  · have ENC := enc_refused 24 xa xb xl xc xi xd (ref_1 xa xb xl xc xi xd)
    have OKC := ok_refused 24 xa xb xl xc xi xd (ref_1 xa xb xl xc xi xd)
    have HXM : Hid ((W.setCell ⟨W1.heap.size, 0, none⟩ (.int .i64 24)).heap[W1.heap.size]? = some (.cells #[.int .i64 24, .int .i64 xa, .int .i64 xb, .int .i64 xl, .int .i64 xc, .int .u64 xi, .int .i64 xd] 24 (0, 0))) := Lib.hid (by simpa using heap_set (i := 0) HX.out (.int .i64 24))
    go_wp2_with (first | (go_at_call 10; refine (ENC _).mono ?_; rintro e W2 ⟨a2, cap2, rfl, hf2⟩; obtain ⟨y0, y1, y2, y3, y4, y5, y6, yf⟩ := cells7 (hf2.heap HXM.out (by simp))) | (go_at_call 13; refine (OKC _).mono ?_; rintro e W3 ⟨rfl, hf3⟩) | (go_at_call 11; refine (awake_any _).mono ?_; rintro e W4 ⟨rfl, hf4⟩))
    go_ret
    exact ⟨rfl, (((HW.out.setCell (.inr hge1) _).then0 hf2).then0 hf3).then0 hf4⟩
  · have ENC := enc_refused xo 16 xb xl xc xi xd (ref_2 xo xb xl xc xi xd)
    have OKC := ok_refused xo 16 xb xl xc xi xd (ref_2 xo xb xl xc xi xd)
    have HXM : Hid ((W.setCell ⟨W1.heap.size, 1, none⟩ (.int .i64 16)).heap[W1.heap.size]? = some (.cells #[.int .i64 xo, .int .i64 16, .int .i64 xb, .int .i64 xl, .int .i64 xc, .int .u64 xi, .int .i64 xd] 24 (0, 0))) := Lib.hid (by simpa using heap_set (i := 1) HX.out (.int .i64 16))
    go_wp2_with (first | (go_at_call 10; refine (ENC _).mono ?_; rintro e W2 ⟨a2, cap2, rfl, hf2⟩; obtain ⟨y0, y1, y2, y3, y4, y5, y6, yf⟩ := cells7 (hf2.heap HXM.out (by simp))) | (go_at_call 13; refine (OKC _).mono ?_; rintro e W3 ⟨rfl, hf3⟩) | (go_at_call 11; refine (awake_any _).mono ?_; rintro e W4 ⟨rfl, hf4⟩))
    go_ret
    exact ⟨rfl, (((HW.out.setCell (.inr hge1) _).then0 hf2).then0 hf3).then0 hf4⟩
  · have ENC := enc_refused xo xa (-1) xl xc xi xd (ref_3 xo xa xl xc xi xd)
    have OKC := ok_refused xo xa (-1) xl xc xi xd (ref_3 xo xa xl xc xi xd)
    have HXM : Hid ((W.setCell ⟨W1.heap.size, 2, none⟩ (.int .i64 (-1))).heap[W1.heap.size]? = some (.cells #[.int .i64 xo, .int .i64 xa, .int .i64 (-1), .int .i64 xl, .int .i64 xc, .int .u64 xi, .int .i64 xd] 24 (0, 0))) := Lib.hid (by simpa using heap_set (i := 2) HX.out (.int .i64 (-1)))
    go_wp2_with (first | (go_at_call 10; refine (ENC _).mono ?_; rintro e W2 ⟨a2, cap2, rfl, hf2⟩; obtain ⟨y0, y1, y2, y3, y4, y5, y6, yf⟩ := cells7 (hf2.heap HXM.out (by simp))) | (go_at_call 13; refine (OKC _).mono ?_; rintro e W3 ⟨rfl, hf3⟩) | (go_at_call 11; refine (awake_any _).mono ?_; rintro e W4 ⟨rfl, hf4⟩))
    go_ret
    exact ⟨rfl, (((HW.out.setCell (.inr hge1) _).then0 hf2).then0 hf3).then0 hf4⟩
  · have ENC := enc_refused xo xa xb 99 xc xi xd (ref_4 xo xa xb xc xi xd ho1 ho2)
    have OKC := ok_refused xo xa xb 99 xc xi xd (ref_4 xo xa xb xc xi xd ho1 ho2)
    have HXM : Hid ((W.setCell ⟨W1.heap.size, 3, none⟩ (.int .i64 99)).heap[W1.heap.size]? = some (.cells #[.int .i64 xo, .int .i64 xa, .int .i64 xb, .int .i64 99, .int .i64 xc, .int .u64 xi, .int .i64 xd] 24 (0, 0))) := Lib.hid (by simpa using heap_set (i := 3) HX.out (.int .i64 99))
    go_wp2_with (first | (go_at_call 10; refine (ENC _).mono ?_; rintro e W2 ⟨a2, cap2, rfl, hf2⟩; obtain ⟨y0, y1, y2, y3, y4, y5, y6, yf⟩ := cells7 (hf2.heap HXM.out (by simp))) | (go_at_call 13; refine (OKC _).mono ?_; rintro e W3 ⟨rfl, hf3⟩) | (go_at_call 11; refine (awake_any _).mono ?_; rintro e W4 ⟨rfl, hf4⟩))
    go_ret
    exact ⟨rfl, (((HW.out.setCell (.inr hge1) _).then0 hf2).then0 hf3).then0 hf4⟩
  · have ENC := enc_refused xo xa xb xl 1 xi xd (ref_5 xo xa xb xl xi xd ho1 ho2)
    have OKC := ok_refused xo xa xb xl 1 xi xd (ref_5 xo xa xb xl xi xd ho1 ho2)
    have HXM : Hid ((W.setCell ⟨W1.heap.size, 4, none⟩ (.int .i64 1)).heap[W1.heap.size]? = some (.cells #[.int .i64 xo, .int .i64 xa, .int .i64 xb, .int .i64 xl, .int .i64 1, .int .u64 xi, .int .i64 xd] 24 (0, 0))) := Lib.hid (by simpa using heap_set (i := 4) HX.out (.int .i64 1))
    go_wp2_with (first | (go_at_call 10; refine (ENC _).mono ?_; rintro e W2 ⟨a2, cap2, rfl, hf2⟩; obtain ⟨y0, y1, y2, y3, y4, y5, y6, yf⟩ := cells7 (hf2.heap HXM.out (by simp))) | (go_at_call 13; refine (OKC _).mono ?_; rintro e W3 ⟨rfl, hf3⟩) | (go_at_call 11; refine (awake_any _).mono ?_; rintro e W4 ⟨rfl, hf4⟩))
    go_ret
    exact ⟨rfl, (((HW.out.setCell (.inr hge1) _).then0 hf2).then0 hf3).then0 hf4⟩
  · have ENC := enc_refused xo xa xb xl xc xi 1099511627776 (ref_6 xo xa xb xl xc xi ho1 ho2)
    have OKC := ok_refused xo xa xb xl xc xi 1099511627776 (ref_6 xo xa xb xl xc xi ho1 ho2)
    have HXM : Hid ((W.setCell ⟨W1.heap.size, 6, none⟩ (.int .i64 1099511627776)).heap[W1.heap.size]? = some (.cells #[.int .i64 xo, .int .i64 xa, .int .i64 xb, .int .i64 xl, .int .i64 xc, .int .u64 xi, .int .i64 1099511627776] 24 (0, 0))) := Lib.hid (by simpa using heap_set (i := 6) HX.out (.int .i64 1099511627776))
    go_wp2_with (first | (go_at_call 10; refine (ENC _).mono ?_; rintro e W2 ⟨a2, cap2, rfl, hf2⟩; obtain ⟨y0, y1, y2, y3, y4, y5, y6, yf⟩ := cells7 (hf2.heap HXM.out (by simp))) | (go_at_call 13; refine (OKC _).mono ?_; rintro e W3 ⟨rfl, hf3⟩) | (go_at_call 11; refine (awake_any _).mono ?_; rintro e W4 ⟨rfl, hf4⟩))
    go_ret
    exact ⟨rfl, (((HW.out.setCell (.inr hge1) _).then0 hf2).then0 hf3).then0 hf4⟩
  · by_cases h5 : xo = 5
    · have t5 : (xo == 5) = true := by simp [h5]
      clear h5
      go_wp2_with (go_at_call 11; refine (awake_any _).mono ?_; rintro e W4 ⟨rfl, hf4⟩)
      go_ret
      exact ⟨rfl, HW.out.then0 hf4⟩
    · have t5 : (xo == 5) = false := by simp [h5]
      have ENC := enc_refused xo xa xb xl xc 1099511627776 xd (ref_7 xo xa xb xl xc xd ho1 ho2 h5)
      have OKC := ok_refused xo xa xb xl xc 1099511627776 xd (ref_7 xo xa xb xl xc xd ho1 ho2 h5)
      clear h5
      have HXM : Hid ((W.setCell ⟨W1.heap.size, 5, none⟩ (.int .u64 1099511627776)).heap[W1.heap.size]? = some (.cells #[.int .i64 xo, .int .i64 xa, .int .i64 xb, .int .i64 xl, .int .i64 xc, .int .u64 1099511627776, .int .i64 xd] 24 (0, 0))) := Lib.hid (by simpa using heap_set (i := 5) HX.out (.int .u64 1099511627776))
      go_wp2_with (first | (go_at_call 10; refine (ENC _).mono ?_; rintro e W2 ⟨a2, cap2, rfl, hf2⟩; obtain ⟨y0, y1, y2, y3, y4, y5, y6, yf⟩ := cells7 (hf2.heap HXM.out (by simp))) | (go_at_call 13; refine (OKC _).mono ?_; rintro e W3 ⟨rfl, hf3⟩) | (go_at_call 11; refine (awake_any _).mono ?_; rintro e W4 ⟨rfl, hf4⟩))
      go_ret
      exact ⟨rfl, (((HW.out.setCell (.inr hge1) _).then0 hf2).then0 hf3).then0 hf4⟩
end Go.Proofs.Ytegnmnhdpnmnpaa
