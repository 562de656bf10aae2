/- dec.Encode, joined. -/
import Derived.Test.YtegnmnhdpnmnpaaEncA
import Derived.Test.YtegnmnhdpnmnpaaEncC
namespace Go.Proofs.Ytegnmnhdpnmnpaa
set_option linter.unusedVariables false
set_option linter.unusedSimpArgs false
open Go.RowKit

set_option maxRecDepth 100000 in
theorem enc_no (x : Ins) (hok : okB x = false) (w : World) :
    Calls Try.prog 10 #[.agg x.row] w fun e w' => ∃ sv, e = .returned (.tuple #[sv, .bool false]) ∧ OwnB w.heap.size w' sv [] ∧ Fr [] w w' := by
  have OKC : ∀ W, Calls Try.prog 13 #[.agg x.row] W fun e w' => e = .returned (.bool false) ∧ Fr [] W w' := fun W => by
    have := ok_any x W
    rw [hok] at this
    exact this
  clear hok
  obtain ⟨op, a, b, alu, cc, imm, d⟩ := x
  unfold Ins.row at *
  simp only at *
  go_enter Try.func10, Try.ntmps10
  go_wp2_with (go_at_call 13; refine (OKC _).mono ?_; rintro e W1 ⟨rfl, hf1⟩)
  go_ret2
  exact ⟨_, rfl, OwnB.nil _ _, ((Fr.refl [] w).alloc _).then0 hf1⟩

theorem okCond_7 {a b alu cc imm d : Int} (h : okCond ⟨7, a, b, alu, cc, imm, d⟩ = true) : alu = 0 ∨ alu = 1 ∨ alu = 2 ∨ alu = 3 ∨ alu = 4 ∨ alu = 7 ∨ alu = 8 := by
  simpa [okCond, aluAll] using h
theorem okCond_14 {a b alu cc imm d : Int} (h : okCond ⟨14, a, b, alu, cc, imm, d⟩ = true) : alu = 0 ∨ alu = 1 ∨ alu = 7 := by
  have := h
  simp [okCond, groupOps] at this
  exact this.1
theorem okCond_15 {a b alu cc imm d : Int} (h : okCond ⟨15, a, b, alu, cc, imm, d⟩ = true) : alu = 5 ∨ alu = 6 := by
  simpa [okCond, groupOps] using h
theorem okCond_16 {a b alu cc imm d : Int} (h : okCond ⟨16, a, b, alu, cc, imm, d⟩ = true) : (alu = 9 ∨ alu = 10) ∧ imm ≤ 255 := by
  simpa [okCond, groupOps] using h
theorem okCond_20 {a b alu cc imm d : Int} (h : okCond ⟨20, a, b, alu, cc, imm, d⟩ = true) : 0 ≤ cc ∧ cc ≤ 15 := by
  have := h
  simp [okCond, condAll] at this
  have := this.1
  omega
theorem okCond_23 {a b alu cc imm d : Int} (h : okCond ⟨23, a, b, alu, cc, imm, d⟩ = true) : imm ≤ 255 := by
  simpa [okCond] using h

theorem encode_any (x : Ins) (hi0 : 0 ≤ x.imm) (hi1 : x.imm < 18446744073709551616) (w : World) :
    Calls Try.prog 10 #[.agg x.row] w fun e w' => ∃ sv, e = .returned (.tuple #[sv, .bool (okB x)]) ∧ OwnB w.heap.size w' sv (if okB x = true then encL x else []) ∧ Fr [] w w' := by
  by_cases hok : okB x = true
  · rw [if_pos hok, hok]
    obtain ⟨op, a, b, alu, cc, imm, d⟩ := x
    have h := hok
    unfold okB at h
    simp only [Bool.and_eq_true, decide_eq_true_eq, regB] at h
    obtain ⟨⟨⟨⟨ho1, ho2⟩, ⟨ha0, ha1⟩, ⟨hb0, hb1⟩⟩, hC⟩, -⟩ := h
    simp only at hi0 hi1
    have hops : op = 1 ∨ op = 2 ∨ op = 3 ∨ op = 4 ∨ op = 5 ∨ op = 6 ∨ op = 7 ∨ op = 8 ∨ op = 9 ∨ op = 10 ∨ op = 11 ∨ op = 12 ∨ op = 13 ∨ op = 14 ∨ op = 15 ∨ op = 16 ∨ op = 17 ∨ op = 18 ∨ op = 19 ∨ op = 20 ∨ op = 21 ∨ op = 22 ∨ op = 23 := by omega
    rcases hops with rfl | rfl | rfl | rfl | rfl | rfl | rfl | rfl | rfl | rfl | rfl | rfl | rfl | rfl | rfl | rfl | rfl | rfl | rfl | rfl | rfl | rfl | rfl
    · have e := enc_1 a b alu cc imm d hok ha0 ha1 w; simpa [encL, Ins.row] using e
    · have e := enc_2 a b alu cc imm d hok ha0 ha1 w; simpa [encL, Ins.row] using e
    · have e := enc_3 a b alu cc imm d hok ha0 ha1 w; simpa [encL, Ins.row] using e
    · have e := enc_4 a b alu cc imm d hok ha0 ha1 w; simpa [encL, Ins.row] using e
    · have e := enc_5 a b alu cc imm d hok ha0 ha1 hi0 hi1 w; simpa [encL, Ins.row] using e
    · have e := enc_6 a b alu cc imm d hok ha0 ha1 hi0 hi1 w; simpa [encL, Ins.row] using e
    · have hm := okCond_7 hC
      rcases hm with rfl | rfl | rfl | rfl | rfl | rfl | rfl
      · have e := enc_7 a b 0 cc imm d hok 0 (by decide) 1 (by decide) (by decide) (by decide) (by decide) ha0 ha1 hb0 hb1 w; simpa [encL, codeOf, Ins.row] using e
      · have e := enc_7 a b 1 cc imm d hok 1 (by decide) 41 (by decide) (by decide) (by decide) (by decide) ha0 ha1 hb0 hb1 w; simpa [encL, codeOf, Ins.row] using e
      · have e := enc_7 a b 2 cc imm d hok 2 (by decide) 33 (by decide) (by decide) (by decide) (by decide) ha0 ha1 hb0 hb1 w; simpa [encL, codeOf, Ins.row] using e
      · have e := enc_7 a b 3 cc imm d hok 3 (by decide) 9 (by decide) (by decide) (by decide) (by decide) ha0 ha1 hb0 hb1 w; simpa [encL, codeOf, Ins.row] using e
      · have e := enc_7 a b 4 cc imm d hok 4 (by decide) 49 (by decide) (by decide) (by decide) (by decide) ha0 ha1 hb0 hb1 w; simpa [encL, codeOf, Ins.row] using e
      · have e := enc_7 a b 7 cc imm d hok 5 (by decide) 57 (by decide) (by decide) (by decide) (by decide) ha0 ha1 hb0 hb1 w; simpa [encL, codeOf, Ins.row] using e
      · have e := enc_7 a b 8 cc imm d hok 6 (by decide) 133 (by decide) (by decide) (by decide) (by decide) ha0 ha1 hb0 hb1 w; simpa [encL, codeOf, Ins.row] using e
    · have e := enc_8 a b alu cc imm d hok ha0 ha1 hb0 hb1 w; simpa [encL, Ins.row] using e
    · have e := enc_9 a b alu cc imm d hok ha0 ha1 hb0 hb1 w; simpa [encL, Ins.row] using e
    · have e := enc_10 a b alu cc imm d hok ha0 ha1 hb0 hb1 w; simpa [encL, Ins.row] using e
    · have e := enc_11 a b alu cc imm d hok ha0 ha1 w; simpa [encL, Ins.row] using e
    · have e := enc_12 a b alu cc imm d hok ha0 ha1 w; simpa [encL, Ins.row] using e
    · have e := enc_13 a b alu cc imm d hok ha0 ha1 w; simpa [encL, Ins.row] using e
    · have hm := okCond_14 hC
      rcases hm with rfl | rfl | rfl
      · have e := enc_14 a b 0 cc imm d hok 0 (by decide) 192 (by decide) (by decide) (by decide) (by decide) ha0 ha1 hb0 hb1 w; simpa [encL, codeOf, Ins.row] using e
      · have e := enc_14 a b 1 cc imm d hok 1 (by decide) 232 (by decide) (by decide) (by decide) (by decide) ha0 ha1 hb0 hb1 w; simpa [encL, codeOf, Ins.row] using e
      · have e := enc_14 a b 7 cc imm d hok 2 (by decide) 248 (by decide) (by decide) (by decide) (by decide) ha0 ha1 hb0 hb1 w; simpa [encL, codeOf, Ins.row] using e
    · have hm := okCond_15 hC
      rcases hm with rfl | rfl
      · have e := enc_15 a b 5 cc imm d hok 0 (by decide) 192 (by decide) (by decide) (by decide) (by decide) ha0 ha1 hb0 hb1 w; simpa [encL, codeOf, Ins.row] using e
      · have e := enc_15 a b 6 cc imm d hok 1 (by decide) 200 (by decide) (by decide) (by decide) (by decide) ha0 ha1 hb0 hb1 w; simpa [encL, codeOf, Ins.row] using e
    · have hm := okCond_16 hC
      obtain ⟨hm, hi2⟩ := hm
      rcases hm with rfl | rfl
      · have e := enc_16 a b 9 cc imm d hok 0 (by decide) 224 (by decide) (by decide) (by decide) (by decide) ha0 ha1 hb0 hb1 hi0 hi2 w; simpa [encL, codeOf, Ins.row] using e
      · have e := enc_16 a b 10 cc imm d hok 1 (by decide) 232 (by decide) (by decide) (by decide) (by decide) ha0 ha1 hb0 hb1 hi0 hi2 w; simpa [encL, codeOf, Ins.row] using e
    · have e := enc_17 a b alu cc imm d hok ha0 ha1 w; simpa [encL, Ins.row] using e
    · have e := enc_18 a b alu cc imm d hok ha0 ha1 w; simpa [encL, Ins.row] using e
    · have e := enc_19 a b alu cc imm d hok ha0 ha1 w; simpa [encL, Ins.row] using e
    · obtain ⟨h0, h1⟩ := okCond_20 hC
      have e := enc_20 a b alu cc imm d hok ha0 ha1 h0 h1 w; simpa [encL, Ins.row] using e
    · have e := enc_21 a b alu cc imm d hok ha0 ha1 w; simpa [encL, Ins.row] using e
    · have e := enc_22 a b alu cc imm d hok ha0 ha1 w; simpa [encL, Ins.row] using e
    · have h1 := okCond_23 hC
      have e := enc_23 a b alu cc imm d hok ha0 ha1 hi0 h1 w; simpa [encL, Ins.row] using e
  · have hok' : okB x = false := by simpa using hok
    have e := enc_no x hok' w
    simpa [hok'] using e
end Go.Proofs.Ytegnmnhdpnmnpaa
