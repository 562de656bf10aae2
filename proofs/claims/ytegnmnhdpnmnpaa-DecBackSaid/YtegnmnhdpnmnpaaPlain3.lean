/- Kind by kind: what is encoded is decoded. -/
import Derived.Test.YtegnmnhdpnmnpaaPlain
import Derived.Test.YtegnmnhdpnmnpaaEncode
namespace Go.Proofs.Ytegnmnhdpnmnpaa
set_option linter.unusedVariables false
set_option linter.unusedSimpArgs false
open Go.RowKit
def Of (x : Ins) : Prop := ∃ f, f ∈ FORMS ∧ f.size = (encL x).length ∧ (∀ more, f.fits (encL x ++ more) = true) ∧ f.ins (encL x) = x
theorem fo_1  : Of ⟨1, 0, 0, 0, 0, 0, 0⟩ := by
  have e : encL ⟨1, 0, 0, 0, 0, 0, 0⟩ = [144] := by simp [encL]
  refine ⟨{ steps := [(255, 144)], more := 0, op := 1, alu := 0, cc := 0 }, by decide +kernel, by rw [e]; simp [Form.size], fun more => ?_, ?_⟩
  · rw [e]
    simp [Form.fits, fitsGo, stepOk, Form.mem]
  · rw [e]
    simp [Form.ins, leNat]
    all_goals (((repeat' apply And.intro) <;> first | omega | (unfold sx32; omega) | (unfold sx8; omega)))
theorem fo_2  : Of ⟨2, 0, 0, 0, 0, 0, 0⟩ := by
  have e : encL ⟨2, 0, 0, 0, 0, 0, 0⟩ = [195] := by simp [encL]
  refine ⟨{ steps := [(255, 195)], more := 0, op := 2, alu := 0, cc := 0 }, by decide +kernel, by rw [e]; simp [Form.size], fun more => ?_, ?_⟩
  · rw [e]
    simp [Form.fits, fitsGo, stepOk, Form.mem]
  · rw [e]
    simp [Form.ins, leNat]
    all_goals (((repeat' apply And.intro) <;> first | omega | (unfold sx32; omega) | (unfold sx8; omega)))
theorem fo_3l (a : Int) (ha0 : 0 ≤ a) (ha1 : a ≤ 7) : Of ⟨3, a, 0, 0, 0, 0, 0⟩ := by
  have e : encL ⟨3, a, 0, 0, 0, 0, 0⟩ = [ub (80 + a % 8)] := by simp [encL, aheadL, show ¬ 7 < a by omega]
  obtain ⟨c0, hc0⟩ : ∃ c, ub (80 + a % 8) = c := ⟨_, rfl⟩
  have v0 : (c0.toNat : Int) = 80 + a % 8 := by rw [← hc0, ub_id (by omega) (by omega)]
  rw [hc0] at e
  clear hc0
  refine ⟨{ steps := [(248, 80)], more := 0, op := 3, alu := 0, cc := 0 }, by decide +kernel, by rw [e]; simp [Form.size], fun more => ?_, ?_⟩
  · rw [e]
    simp [Form.fits, fitsGo, stepOk, Form.mem, m248]
    all_goals (((repeat' apply And.intro) <;> omega))
  · rw [e]
    simp [Form.ins, leNat]
    all_goals (((repeat' apply And.intro) <;> first | omega | (unfold sx32; omega) | (unfold sx8; omega)))
theorem fo_3h (a : Int) (ha0 : 7 < a) (ha1 : a ≤ 15) : Of ⟨3, a, 0, 0, 0, 0, 0⟩ := by
  have e : encL ⟨3, a, 0, 0, 0, 0, 0⟩ = [65, ub (80 + a % 8)] := by simp [encL, aheadL, ha0]
  obtain ⟨c1, hc1⟩ : ∃ c, ub (80 + a % 8) = c := ⟨_, rfl⟩
  have v1 : (c1.toNat : Int) = 80 + a % 8 := by rw [← hc1, ub_id (by omega) (by omega)]
  rw [hc1] at e
  clear hc1
  refine ⟨{ steps := [(255, 65), (248, 80)], more := 0, op := 3, alu := 0, cc := 0 }, by decide +kernel, by rw [e]; simp [Form.size], fun more => ?_, ?_⟩
  · rw [e]
    simp [Form.fits, fitsGo, stepOk, Form.mem, m248]
    all_goals (((repeat' apply And.intro) <;> omega))
  · rw [e]
    simp [Form.ins, leNat]
    all_goals (((repeat' apply And.intro) <;> first | omega | (unfold sx32; omega) | (unfold sx8; omega)))
theorem fo_4l (a : Int) (ha0 : 0 ≤ a) (ha1 : a ≤ 7) : Of ⟨4, a, 0, 0, 0, 0, 0⟩ := by
  have e : encL ⟨4, a, 0, 0, 0, 0, 0⟩ = [ub (88 + a % 8)] := by simp [encL, aheadL, show ¬ 7 < a by omega]
  obtain ⟨c0, hc0⟩ : ∃ c, ub (88 + a % 8) = c := ⟨_, rfl⟩
  have v0 : (c0.toNat : Int) = 88 + a % 8 := by rw [← hc0, ub_id (by omega) (by omega)]
  rw [hc0] at e
  clear hc0
  refine ⟨{ steps := [(248, 88)], more := 0, op := 4, alu := 0, cc := 0 }, by decide +kernel, by rw [e]; simp [Form.size], fun more => ?_, ?_⟩
  · rw [e]
    simp [Form.fits, fitsGo, stepOk, Form.mem, m248]
    all_goals (((repeat' apply And.intro) <;> omega))
  · rw [e]
    simp [Form.ins, leNat]
    all_goals (((repeat' apply And.intro) <;> first | omega | (unfold sx32; omega) | (unfold sx8; omega)))
theorem fo_4h (a : Int) (ha0 : 7 < a) (ha1 : a ≤ 15) : Of ⟨4, a, 0, 0, 0, 0, 0⟩ := by
  have e : encL ⟨4, a, 0, 0, 0, 0, 0⟩ = [65, ub (88 + a % 8)] := by simp [encL, aheadL, ha0]
  obtain ⟨c1, hc1⟩ : ∃ c, ub (88 + a % 8) = c := ⟨_, rfl⟩
  have v1 : (c1.toNat : Int) = 88 + a % 8 := by rw [← hc1, ub_id (by omega) (by omega)]
  rw [hc1] at e
  clear hc1
  refine ⟨{ steps := [(255, 65), (248, 88)], more := 0, op := 4, alu := 0, cc := 0 }, by decide +kernel, by rw [e]; simp [Form.size], fun more => ?_, ?_⟩
  · rw [e]
    simp [Form.fits, fitsGo, stepOk, Form.mem, m248]
    all_goals (((repeat' apply And.intro) <;> omega))
  · rw [e]
    simp [Form.ins, leNat]
    all_goals (((repeat' apply And.intro) <;> first | omega | (unfold sx32; omega) | (unfold sx8; omega)))
theorem fo_6l (a imm : Int) (ha0 : 0 ≤ a) (ha1 : a ≤ 7) (hi0 : 0 ≤ imm) (hi1 : imm ≤ 4294967295) : Of ⟨6, a, 0, 0, 0, imm, 0⟩ := by
  have e : encL ⟨6, a, 0, 0, 0, imm, 0⟩ = [ub (184 + a % 8)] ++ leB imm 4 := by simp [encL, aheadL, show ¬ 7 < a by omega]
  obtain ⟨c0, hc0⟩ : ∃ c, ub (184 + a % 8) = c := ⟨_, rfl⟩
  have v0 : (c0.toNat : Int) = 184 + a % 8 := by rw [← hc0, ub_id (by omega) (by omega)]
  rw [hc0] at e
  clear hc0
  refine ⟨{ steps := [(248, 184)], more := 4, op := 6, alu := 0, cc := 0 }, by decide +kernel, by rw [e]; simp [Form.size, leB_length], fun more => ?_, ?_⟩
  · rw [e]
    simp [Form.fits, fitsGo, stepOk, Form.mem, m248]
    all_goals (((repeat' apply And.intro) <;> omega))
  · rw [e]
    simp [Form.ins, leNat_leB]
    all_goals (((repeat' apply And.intro) <;> first | omega | (unfold sx32; omega) | (unfold sx8; omega)))
theorem fo_6h (a imm : Int) (ha0 : 7 < a) (ha1 : a ≤ 15) (hi0 : 0 ≤ imm) (hi1 : imm ≤ 4294967295) : Of ⟨6, a, 0, 0, 0, imm, 0⟩ := by
  have e : encL ⟨6, a, 0, 0, 0, imm, 0⟩ = [65, ub (184 + a % 8)] ++ leB imm 4 := by simp [encL, aheadL, ha0]
  obtain ⟨c1, hc1⟩ : ∃ c, ub (184 + a % 8) = c := ⟨_, rfl⟩
  have v1 : (c1.toNat : Int) = 184 + a % 8 := by rw [← hc1, ub_id (by omega) (by omega)]
  rw [hc1] at e
  clear hc1
  refine ⟨{ steps := [(255, 65), (248, 184)], more := 4, op := 6, alu := 0, cc := 0 }, by decide +kernel, by rw [e]; simp [Form.size, leB_length], fun more => ?_, ?_⟩
  · rw [e]
    simp [Form.fits, fitsGo, stepOk, Form.mem, m248]
    all_goals (((repeat' apply And.intro) <;> omega))
  · rw [e]
    simp [Form.ins, leNat_leB]
    all_goals (((repeat' apply And.intro) <;> first | omega | (unfold sx32; omega) | (unfold sx8; omega)))
theorem fo_5 (a imm : Int) (ha0 : 0 ≤ a) (ha1 : a ≤ 15) (hi0 : 0 ≤ imm) (hi1 : imm < 18446744073709551616) : Of ⟨5, a, 0, 0, 0, imm, 0⟩ := by
  have e : encL ⟨5, a, 0, 0, 0, imm, 0⟩ = [ub (rexI 0 a), ub (184 + a % 8)] ++ leB imm 8 := by simp [encL]
  obtain ⟨c0, hc0⟩ : ∃ c, ub (rexI 0 a) = c := ⟨_, rfl⟩
  have v0 : (c0.toNat : Int) = rexI 0 a := by rw [← hc0, ub_id (rexI_bd _ _).1 (rexI_bd _ _).2]
  rw [hc0] at e
  clear hc0
  obtain ⟨c1, hc1⟩ : ∃ c, ub (184 + a % 8) = c := ⟨_, rfl⟩
  have v1 : (c1.toNat : Int) = 184 + a % 8 := by rw [← hc1, ub_id (by omega) (by omega)]
  rw [hc1] at e
  clear hc1
  refine ⟨{ steps := [(254, 72), (248, 184)], more := 8, op := 5, alu := 0, cc := 0 }, by decide +kernel, by rw [e]; simp [Form.size, leB_length], fun more => ?_, ?_⟩
  · rw [e]
    unfold rexI at v0
    simp [Form.fits, fitsGo, stepOk, Form.mem, m254, m248]
    all_goals ((repeat' split at v0) <;> ((repeat' apply And.intro) <;> omega))
  · rw [e]
    unfold rexI at v0
    simp [Form.ins, leNat_leB]
    all_goals ((repeat' split at v0) <;> ((repeat' apply And.intro) <;> first | omega | (unfold sx32; omega) | (unfold sx8; omega)))
theorem fo_7_0 (a b : Int) (ha0 : 0 ≤ a) (ha1 : a ≤ 15) (hb0 : 0 ≤ b) (hb1 : b ≤ 15) : Of ⟨7, a, b, 0, 0, 0, 0⟩ := by
  have e : encL ⟨7, a, b, 0, 0, 0, 0⟩ = [ub (rexI a b), 1, ub (192 + 8 * (a % 8) + b % 8)] := by simp [encL, codeOf, ub]
  obtain ⟨c0, hc0⟩ : ∃ c, ub (rexI a b) = c := ⟨_, rfl⟩
  have v0 : (c0.toNat : Int) = rexI a b := by rw [← hc0, ub_id (rexI_bd _ _).1 (rexI_bd _ _).2]
  rw [hc0] at e
  clear hc0
  obtain ⟨c2, hc2⟩ : ∃ c, ub (192 + 8 * (a % 8) + b % 8) = c := ⟨_, rfl⟩
  have v2 : (c2.toNat : Int) = 192 + 8 * (a % 8) + b % 8 := by rw [← hc2, ub_id (by omega) (by omega)]
  rw [hc2] at e
  clear hc2
  refine ⟨{ steps := [(250, 72), (255, 1), (192, 192)], more := 0, op := 7, alu := 0, cc := 0 }, by decide +kernel, by rw [e]; simp [Form.size], fun more => ?_, ?_⟩
  · rw [e]
    unfold rexI at v0
    simp [Form.fits, fitsGo, stepOk, Form.mem, m250, m255, m192]
    all_goals ((repeat' split at v0) <;> ((repeat' apply And.intro) <;> omega))
  · rw [e]
    unfold rexI at v0
    simp [Form.ins, leNat]
    all_goals ((repeat' split at v0) <;> ((repeat' apply And.intro) <;> first | omega | (unfold sx32; omega) | (unfold sx8; omega)))
theorem fo_7_1 (a b : Int) (ha0 : 0 ≤ a) (ha1 : a ≤ 15) (hb0 : 0 ≤ b) (hb1 : b ≤ 15) : Of ⟨7, a, b, 1, 0, 0, 0⟩ := by
  have e : encL ⟨7, a, b, 1, 0, 0, 0⟩ = [ub (rexI a b), 41, ub (192 + 8 * (a % 8) + b % 8)] := by simp [encL, codeOf, ub]
  obtain ⟨c0, hc0⟩ : ∃ c, ub (rexI a b) = c := ⟨_, rfl⟩
  have v0 : (c0.toNat : Int) = rexI a b := by rw [← hc0, ub_id (rexI_bd _ _).1 (rexI_bd _ _).2]
  rw [hc0] at e
  clear hc0
  obtain ⟨c2, hc2⟩ : ∃ c, ub (192 + 8 * (a % 8) + b % 8) = c := ⟨_, rfl⟩
  have v2 : (c2.toNat : Int) = 192 + 8 * (a % 8) + b % 8 := by rw [← hc2, ub_id (by omega) (by omega)]
  rw [hc2] at e
  clear hc2
  refine ⟨{ steps := [(250, 72), (255, 41), (192, 192)], more := 0, op := 7, alu := 1, cc := 0 }, by decide +kernel, by rw [e]; simp [Form.size], fun more => ?_, ?_⟩
  · rw [e]
    unfold rexI at v0
    simp [Form.fits, fitsGo, stepOk, Form.mem, m250, m255, m192]
    all_goals ((repeat' split at v0) <;> ((repeat' apply And.intro) <;> omega))
  · rw [e]
    unfold rexI at v0
    simp [Form.ins, leNat]
    all_goals ((repeat' split at v0) <;> ((repeat' apply And.intro) <;> first | omega | (unfold sx32; omega) | (unfold sx8; omega)))
theorem fo_7_2 (a b : Int) (ha0 : 0 ≤ a) (ha1 : a ≤ 15) (hb0 : 0 ≤ b) (hb1 : b ≤ 15) : Of ⟨7, a, b, 2, 0, 0, 0⟩ := by
  have e : encL ⟨7, a, b, 2, 0, 0, 0⟩ = [ub (rexI a b), 33, ub (192 + 8 * (a % 8) + b % 8)] := by simp [encL, codeOf, ub]
  obtain ⟨c0, hc0⟩ : ∃ c, ub (rexI a b) = c := ⟨_, rfl⟩
  have v0 : (c0.toNat : Int) = rexI a b := by rw [← hc0, ub_id (rexI_bd _ _).1 (rexI_bd _ _).2]
  rw [hc0] at e
  clear hc0
  obtain ⟨c2, hc2⟩ : ∃ c, ub (192 + 8 * (a % 8) + b % 8) = c := ⟨_, rfl⟩
  have v2 : (c2.toNat : Int) = 192 + 8 * (a % 8) + b % 8 := by rw [← hc2, ub_id (by omega) (by omega)]
  rw [hc2] at e
  clear hc2
  refine ⟨{ steps := [(250, 72), (255, 33), (192, 192)], more := 0, op := 7, alu := 2, cc := 0 }, by decide +kernel, by rw [e]; simp [Form.size], fun more => ?_, ?_⟩
  · rw [e]
    unfold rexI at v0
    simp [Form.fits, fitsGo, stepOk, Form.mem, m250, m255, m192]
    all_goals ((repeat' split at v0) <;> ((repeat' apply And.intro) <;> omega))
  · rw [e]
    unfold rexI at v0
    simp [Form.ins, leNat]
    all_goals ((repeat' split at v0) <;> ((repeat' apply And.intro) <;> first | omega | (unfold sx32; omega) | (unfold sx8; omega)))
theorem fo_7_3 (a b : Int) (ha0 : 0 ≤ a) (ha1 : a ≤ 15) (hb0 : 0 ≤ b) (hb1 : b ≤ 15) : Of ⟨7, a, b, 3, 0, 0, 0⟩ := by
  have e : encL ⟨7, a, b, 3, 0, 0, 0⟩ = [ub (rexI a b), 9, ub (192 + 8 * (a % 8) + b % 8)] := by simp [encL, codeOf, ub]
  obtain ⟨c0, hc0⟩ : ∃ c, ub (rexI a b) = c := ⟨_, rfl⟩
  have v0 : (c0.toNat : Int) = rexI a b := by rw [← hc0, ub_id (rexI_bd _ _).1 (rexI_bd _ _).2]
  rw [hc0] at e
  clear hc0
  obtain ⟨c2, hc2⟩ : ∃ c, ub (192 + 8 * (a % 8) + b % 8) = c := ⟨_, rfl⟩
  have v2 : (c2.toNat : Int) = 192 + 8 * (a % 8) + b % 8 := by rw [← hc2, ub_id (by omega) (by omega)]
  rw [hc2] at e
  clear hc2
  refine ⟨{ steps := [(250, 72), (255, 9), (192, 192)], more := 0, op := 7, alu := 3, cc := 0 }, by decide +kernel, by rw [e]; simp [Form.size], fun more => ?_, ?_⟩
  · rw [e]
    unfold rexI at v0
    simp [Form.fits, fitsGo, stepOk, Form.mem, m250, m255, m192]
    all_goals ((repeat' split at v0) <;> ((repeat' apply And.intro) <;> omega))
  · rw [e]
    unfold rexI at v0
    simp [Form.ins, leNat]
    all_goals ((repeat' split at v0) <;> ((repeat' apply And.intro) <;> first | omega | (unfold sx32; omega) | (unfold sx8; omega)))
theorem fo_7_4 (a b : Int) (ha0 : 0 ≤ a) (ha1 : a ≤ 15) (hb0 : 0 ≤ b) (hb1 : b ≤ 15) : Of ⟨7, a, b, 4, 0, 0, 0⟩ := by
  have e : encL ⟨7, a, b, 4, 0, 0, 0⟩ = [ub (rexI a b), 49, ub (192 + 8 * (a % 8) + b % 8)] := by simp [encL, codeOf, ub]
  obtain ⟨c0, hc0⟩ : ∃ c, ub (rexI a b) = c := ⟨_, rfl⟩
  have v0 : (c0.toNat : Int) = rexI a b := by rw [← hc0, ub_id (rexI_bd _ _).1 (rexI_bd _ _).2]
  rw [hc0] at e
  clear hc0
  obtain ⟨c2, hc2⟩ : ∃ c, ub (192 + 8 * (a % 8) + b % 8) = c := ⟨_, rfl⟩
  have v2 : (c2.toNat : Int) = 192 + 8 * (a % 8) + b % 8 := by rw [← hc2, ub_id (by omega) (by omega)]
  rw [hc2] at e
  clear hc2
  refine ⟨{ steps := [(250, 72), (255, 49), (192, 192)], more := 0, op := 7, alu := 4, cc := 0 }, by decide +kernel, by rw [e]; simp [Form.size], fun more => ?_, ?_⟩
  · rw [e]
    unfold rexI at v0
    simp [Form.fits, fitsGo, stepOk, Form.mem, m250, m255, m192]
    all_goals ((repeat' split at v0) <;> ((repeat' apply And.intro) <;> omega))
  · rw [e]
    unfold rexI at v0
    simp [Form.ins, leNat]
    all_goals ((repeat' split at v0) <;> ((repeat' apply And.intro) <;> first | omega | (unfold sx32; omega) | (unfold sx8; omega)))
theorem fo_7_7 (a b : Int) (ha0 : 0 ≤ a) (ha1 : a ≤ 15) (hb0 : 0 ≤ b) (hb1 : b ≤ 15) : Of ⟨7, a, b, 7, 0, 0, 0⟩ := by
  have e : encL ⟨7, a, b, 7, 0, 0, 0⟩ = [ub (rexI a b), 57, ub (192 + 8 * (a % 8) + b % 8)] := by simp [encL, codeOf, ub]
  obtain ⟨c0, hc0⟩ : ∃ c, ub (rexI a b) = c := ⟨_, rfl⟩
  have v0 : (c0.toNat : Int) = rexI a b := by rw [← hc0, ub_id (rexI_bd _ _).1 (rexI_bd _ _).2]
  rw [hc0] at e
  clear hc0
  obtain ⟨c2, hc2⟩ : ∃ c, ub (192 + 8 * (a % 8) + b % 8) = c := ⟨_, rfl⟩
  have v2 : (c2.toNat : Int) = 192 + 8 * (a % 8) + b % 8 := by rw [← hc2, ub_id (by omega) (by omega)]
  rw [hc2] at e
  clear hc2
  refine ⟨{ steps := [(250, 72), (255, 57), (192, 192)], more := 0, op := 7, alu := 7, cc := 0 }, by decide +kernel, by rw [e]; simp [Form.size], fun more => ?_, ?_⟩
  · rw [e]
    unfold rexI at v0
    simp [Form.fits, fitsGo, stepOk, Form.mem, m250, m255, m192]
    all_goals ((repeat' split at v0) <;> ((repeat' apply And.intro) <;> omega))
  · rw [e]
    unfold rexI at v0
    simp [Form.ins, leNat]
    all_goals ((repeat' split at v0) <;> ((repeat' apply And.intro) <;> first | omega | (unfold sx32; omega) | (unfold sx8; omega)))
theorem fo_7_8 (a b : Int) (ha0 : 0 ≤ a) (ha1 : a ≤ 15) (hb0 : 0 ≤ b) (hb1 : b ≤ 15) : Of ⟨7, a, b, 8, 0, 0, 0⟩ := by
  have e : encL ⟨7, a, b, 8, 0, 0, 0⟩ = [ub (rexI a b), 133, ub (192 + 8 * (a % 8) + b % 8)] := by simp [encL, codeOf, ub]
  obtain ⟨c0, hc0⟩ : ∃ c, ub (rexI a b) = c := ⟨_, rfl⟩
  have v0 : (c0.toNat : Int) = rexI a b := by rw [← hc0, ub_id (rexI_bd _ _).1 (rexI_bd _ _).2]
  rw [hc0] at e
  clear hc0
  obtain ⟨c2, hc2⟩ : ∃ c, ub (192 + 8 * (a % 8) + b % 8) = c := ⟨_, rfl⟩
  have v2 : (c2.toNat : Int) = 192 + 8 * (a % 8) + b % 8 := by rw [← hc2, ub_id (by omega) (by omega)]
  rw [hc2] at e
  clear hc2
  refine ⟨{ steps := [(250, 72), (255, 133), (192, 192)], more := 0, op := 7, alu := 8, cc := 0 }, by decide +kernel, by rw [e]; simp [Form.size], fun more => ?_, ?_⟩
  · rw [e]
    unfold rexI at v0
    simp [Form.fits, fitsGo, stepOk, Form.mem, m250, m255, m192]
    all_goals ((repeat' split at v0) <;> ((repeat' apply And.intro) <;> omega))
  · rw [e]
    unfold rexI at v0
    simp [Form.ins, leNat]
    all_goals ((repeat' split at v0) <;> ((repeat' apply And.intro) <;> first | omega | (unfold sx32; omega) | (unfold sx8; omega)))
theorem fo_8 (a b : Int) (ha0 : 0 ≤ a) (ha1 : a ≤ 15) (hb0 : 0 ≤ b) (hb1 : b ≤ 15) : Of ⟨8, a, b, 0, 0, 0, 0⟩ := by
  have e : encL ⟨8, a, b, 0, 0, 0, 0⟩ = [ub (rexI a b), 137, ub (192 + 8 * (a % 8) + b % 8)] := by simp [encL]
  obtain ⟨c0, hc0⟩ : ∃ c, ub (rexI a b) = c := ⟨_, rfl⟩
  have v0 : (c0.toNat : Int) = rexI a b := by rw [← hc0, ub_id (rexI_bd _ _).1 (rexI_bd _ _).2]
  rw [hc0] at e
  clear hc0
  obtain ⟨c2, hc2⟩ : ∃ c, ub (192 + 8 * (a % 8) + b % 8) = c := ⟨_, rfl⟩
  have v2 : (c2.toNat : Int) = 192 + 8 * (a % 8) + b % 8 := by rw [← hc2, ub_id (by omega) (by omega)]
  rw [hc2] at e
  clear hc2
  refine ⟨{ steps := [(250, 72), (255, 137), (192, 192)], more := 0, op := 8, alu := 0, cc := 0 }, by decide +kernel, by rw [e]; simp [Form.size], fun more => ?_, ?_⟩
  · rw [e]
    unfold rexI at v0
    simp [Form.fits, fitsGo, stepOk, Form.mem, m250, m255, m192]
    all_goals ((repeat' split at v0) <;> ((repeat' apply And.intro) <;> omega))
  · rw [e]
    unfold rexI at v0
    simp [Form.ins, leNat]
    all_goals ((repeat' split at v0) <;> ((repeat' apply And.intro) <;> first | omega | (unfold sx32; omega) | (unfold sx8; omega)))
theorem fo_9 (a b d : Int) (ha0 : 0 ≤ a) (ha1 : a ≤ 15) (hb0 : 0 ≤ b) (hb1 : b ≤ 15) (h4 : b % 8 ≠ 4) (hd0 : -2147483648 ≤ d) (hd1 : d ≤ 2147483647) : Of ⟨9, a, b, 0, 0, 0, d⟩ := by
  have e : encL ⟨9, a, b, 0, 0, 0, d⟩ = [ub (rexI a b), 139, ub (128 + 8 * (a % 8) + b % 8)] ++ leB d 4 := by simp [encL]
  obtain ⟨c0, hc0⟩ : ∃ c, ub (rexI a b) = c := ⟨_, rfl⟩
  have v0 : (c0.toNat : Int) = rexI a b := by rw [← hc0, ub_id (rexI_bd _ _).1 (rexI_bd _ _).2]
  rw [hc0] at e
  clear hc0
  obtain ⟨c2, hc2⟩ : ∃ c, ub (128 + 8 * (a % 8) + b % 8) = c := ⟨_, rfl⟩
  have v2 : (c2.toNat : Int) = 128 + 8 * (a % 8) + b % 8 := by rw [← hc2, ub_id (by omega) (by omega)]
  rw [hc2] at e
  clear hc2
  refine ⟨{ steps := [(250, 72), (255, 139), (192, 128)], more := 4, op := 9, alu := 0, cc := 0 }, by decide +kernel, by rw [e]; simp [Form.size, leB_length], fun more => ?_, ?_⟩
  · rw [e]
    unfold rexI at v0
    simp [Form.fits, fitsGo, stepOk, Form.mem, m250, m255, m192, m7]
    all_goals ((repeat' split at v0) <;> ((repeat' apply And.intro) <;> omega))
  · rw [e]
    unfold rexI at v0
    simp [Form.ins, leNat_leB]
    all_goals ((repeat' split at v0) <;> ((repeat' apply And.intro) <;> first | omega | (unfold sx32; omega) | (unfold sx8; omega)))
theorem fo_10 (a b d : Int) (ha0 : 0 ≤ a) (ha1 : a ≤ 15) (hb0 : 0 ≤ b) (hb1 : b ≤ 15) (h4 : b % 8 ≠ 4) (hd0 : -2147483648 ≤ d) (hd1 : d ≤ 2147483647) : Of ⟨10, a, b, 0, 0, 0, d⟩ := by
  have e : encL ⟨10, a, b, 0, 0, 0, d⟩ = [ub (rexI a b), 137, ub (128 + 8 * (a % 8) + b % 8)] ++ leB d 4 := by simp [encL]
  obtain ⟨c0, hc0⟩ : ∃ c, ub (rexI a b) = c := ⟨_, rfl⟩
  have v0 : (c0.toNat : Int) = rexI a b := by rw [← hc0, ub_id (rexI_bd _ _).1 (rexI_bd _ _).2]
  rw [hc0] at e
  clear hc0
  obtain ⟨c2, hc2⟩ : ∃ c, ub (128 + 8 * (a % 8) + b % 8) = c := ⟨_, rfl⟩
  have v2 : (c2.toNat : Int) = 128 + 8 * (a % 8) + b % 8 := by rw [← hc2, ub_id (by omega) (by omega)]
  rw [hc2] at e
  clear hc2
  refine ⟨{ steps := [(250, 72), (255, 137), (192, 128)], more := 4, op := 10, alu := 0, cc := 0 }, by decide +kernel, by rw [e]; simp [Form.size, leB_length], fun more => ?_, ?_⟩
  · rw [e]
    unfold rexI at v0
    simp [Form.fits, fitsGo, stepOk, Form.mem, m250, m255, m192, m7]
    all_goals ((repeat' split at v0) <;> ((repeat' apply And.intro) <;> omega))
  · rw [e]
    unfold rexI at v0
    simp [Form.ins, leNat_leB]
    all_goals ((repeat' split at v0) <;> ((repeat' apply And.intro) <;> first | omega | (unfold sx32; omega) | (unfold sx8; omega)))
theorem fo_11 (a d : Int) (ha0 : 0 ≤ a) (ha1 : a ≤ 15) (hd0 : -2147483648 ≤ d) (hd1 : d ≤ 2147483647) : Of ⟨11, a, 0, 0, 0, 0, d⟩ := by
  have e : encL ⟨11, a, 0, 0, 0, 0, d⟩ = [ub (rexI a 0), 139, ub (8 * (a % 8) + 5)] ++ leB d 4 := by simp [encL]
  obtain ⟨c0, hc0⟩ : ∃ c, ub (rexI a 0) = c := ⟨_, rfl⟩
  have v0 : (c0.toNat : Int) = rexI a 0 := by rw [← hc0, ub_id (rexI_bd _ _).1 (rexI_bd _ _).2]
  rw [hc0] at e
  clear hc0
  obtain ⟨c2, hc2⟩ : ∃ c, ub (8 * (a % 8) + 5) = c := ⟨_, rfl⟩
  have v2 : (c2.toNat : Int) = 8 * (a % 8) + 5 := by rw [← hc2, ub_id (by omega) (by omega)]
  rw [hc2] at e
  clear hc2
  refine ⟨{ steps := [(251, 72), (255, 139), (199, 5)], more := 4, op := 11, alu := 0, cc := 0 }, by decide +kernel, by rw [e]; simp [Form.size, leB_length], fun more => ?_, ?_⟩
  · rw [e]
    unfold rexI at v0
    simp [Form.fits, fitsGo, stepOk, Form.mem, m251, m255, m199]
    all_goals ((repeat' split at v0) <;> ((repeat' apply And.intro) <;> omega))
  · rw [e]
    unfold rexI at v0
    simp [Form.ins, leNat_leB]
    all_goals ((repeat' split at v0) <;> ((repeat' apply And.intro) <;> first | omega | (unfold sx32; omega) | (unfold sx8; omega)))
theorem fo_12 (a d : Int) (ha0 : 0 ≤ a) (ha1 : a ≤ 15) (hd0 : -2147483648 ≤ d) (hd1 : d ≤ 2147483647) : Of ⟨12, a, 0, 0, 0, 0, d⟩ := by
  have e : encL ⟨12, a, 0, 0, 0, 0, d⟩ = [ub (rexI a 0), 137, ub (8 * (a % 8) + 5)] ++ leB d 4 := by simp [encL]
  obtain ⟨c0, hc0⟩ : ∃ c, ub (rexI a 0) = c := ⟨_, rfl⟩
  have v0 : (c0.toNat : Int) = rexI a 0 := by rw [← hc0, ub_id (rexI_bd _ _).1 (rexI_bd _ _).2]
  rw [hc0] at e
  clear hc0
  obtain ⟨c2, hc2⟩ : ∃ c, ub (8 * (a % 8) + 5) = c := ⟨_, rfl⟩
  have v2 : (c2.toNat : Int) = 8 * (a % 8) + 5 := by rw [← hc2, ub_id (by omega) (by omega)]
  rw [hc2] at e
  clear hc2
  refine ⟨{ steps := [(251, 72), (255, 137), (199, 5)], more := 4, op := 12, alu := 0, cc := 0 }, by decide +kernel, by rw [e]; simp [Form.size, leB_length], fun more => ?_, ?_⟩
  · rw [e]
    unfold rexI at v0
    simp [Form.fits, fitsGo, stepOk, Form.mem, m251, m255, m199]
    all_goals ((repeat' split at v0) <;> ((repeat' apply And.intro) <;> omega))
  · rw [e]
    unfold rexI at v0
    simp [Form.ins, leNat_leB]
    all_goals ((repeat' split at v0) <;> ((repeat' apply And.intro) <;> first | omega | (unfold sx32; omega) | (unfold sx8; omega)))
theorem fo_13 (a d : Int) (ha0 : 0 ≤ a) (ha1 : a ≤ 15) (hd0 : -2147483648 ≤ d) (hd1 : d ≤ 2147483647) : Of ⟨13, a, 0, 0, 0, 0, d⟩ := by
  have e : encL ⟨13, a, 0, 0, 0, 0, d⟩ = [ub (rexI a 0), 141, ub (8 * (a % 8) + 5)] ++ leB d 4 := by simp [encL]
  obtain ⟨c0, hc0⟩ : ∃ c, ub (rexI a 0) = c := ⟨_, rfl⟩
  have v0 : (c0.toNat : Int) = rexI a 0 := by rw [← hc0, ub_id (rexI_bd _ _).1 (rexI_bd _ _).2]
  rw [hc0] at e
  clear hc0
  obtain ⟨c2, hc2⟩ : ∃ c, ub (8 * (a % 8) + 5) = c := ⟨_, rfl⟩
  have v2 : (c2.toNat : Int) = 8 * (a % 8) + 5 := by rw [← hc2, ub_id (by omega) (by omega)]
  rw [hc2] at e
  clear hc2
  refine ⟨{ steps := [(251, 72), (255, 141), (199, 5)], more := 4, op := 13, alu := 0, cc := 0 }, by decide +kernel, by rw [e]; simp [Form.size, leB_length], fun more => ?_, ?_⟩
  · rw [e]
    unfold rexI at v0
    simp [Form.fits, fitsGo, stepOk, Form.mem, m251, m255, m199]
    all_goals ((repeat' split at v0) <;> ((repeat' apply And.intro) <;> omega))
  · rw [e]
    unfold rexI at v0
    simp [Form.ins, leNat_leB]
    all_goals ((repeat' split at v0) <;> ((repeat' apply And.intro) <;> first | omega | (unfold sx32; omega) | (unfold sx8; omega)))
theorem fo_14_0 (b imm : Int) (hb0 : 0 ≤ b) (hb1 : b ≤ 15) (hi0 : 0 ≤ imm) (hi1 : imm < 18446744073709551616) (hs0 : -128 ≤ wrap64 imm) (hs1 : wrap64 imm ≤ 127) : Of ⟨14, 0, b, 0, 0, imm, 0⟩ := by
  have e : encL ⟨14, 0, b, 0, 0, imm, 0⟩ = [ub (rexI 0 b), 131, ub (192 + b % 8), ub (imm)] := by simp [encL, codeOf]
  obtain ⟨c0, hc0⟩ : ∃ c, ub (rexI 0 b) = c := ⟨_, rfl⟩
  have v0 : (c0.toNat : Int) = rexI 0 b := by rw [← hc0, ub_id (rexI_bd _ _).1 (rexI_bd _ _).2]
  rw [hc0] at e
  clear hc0
  obtain ⟨c2, hc2⟩ : ∃ c, ub (192 + b % 8) = c := ⟨_, rfl⟩
  have v2 : (c2.toNat : Int) = 192 + b % 8 := by rw [← hc2, ub_id (by omega) (by omega)]
  rw [hc2] at e
  clear hc2
  obtain ⟨c3, hc3⟩ : ∃ c, ub (imm) = c := ⟨_, rfl⟩
  have v3 : (c3.toNat : Int) = (imm) % 256 := by rw [← hc3, ub_val]
  rw [hc3] at e
  clear hc3
  refine ⟨{ steps := [(254, 72), (255, 131), (248, 192)], more := 1, op := 14, alu := 0, cc := 0 }, by decide +kernel, by rw [e]; simp [Form.size], fun more => ?_, ?_⟩
  · rw [e]
    unfold rexI at v0
    simp [Form.fits, fitsGo, stepOk, Form.mem, m254, m255, m248]
    all_goals ((repeat' split at v0) <;> ((repeat' apply And.intro) <;> omega))
  · rw [e]
    unfold rexI at v0
    simp [Form.ins, leNat]
    all_goals ((repeat' split at v0) <;> ((repeat' apply And.intro) <;> first | omega | (unfold sx32; omega) | (unfold sx8; omega) | (unfold wrap64 at *; unfold sx8; omega)))
theorem fo_14_1 (b imm : Int) (hb0 : 0 ≤ b) (hb1 : b ≤ 15) (hi0 : 0 ≤ imm) (hi1 : imm < 18446744073709551616) (hs0 : -128 ≤ wrap64 imm) (hs1 : wrap64 imm ≤ 127) : Of ⟨14, 0, b, 1, 0, imm, 0⟩ := by
  have e : encL ⟨14, 0, b, 1, 0, imm, 0⟩ = [ub (rexI 0 b), 131, ub (232 + b % 8), ub (imm)] := by simp [encL, codeOf]
  obtain ⟨c0, hc0⟩ : ∃ c, ub (rexI 0 b) = c := ⟨_, rfl⟩
  have v0 : (c0.toNat : Int) = rexI 0 b := by rw [← hc0, ub_id (rexI_bd _ _).1 (rexI_bd _ _).2]
  rw [hc0] at e
  clear hc0
  obtain ⟨c2, hc2⟩ : ∃ c, ub (232 + b % 8) = c := ⟨_, rfl⟩
  have v2 : (c2.toNat : Int) = 232 + b % 8 := by rw [← hc2, ub_id (by omega) (by omega)]
  rw [hc2] at e
  clear hc2
  obtain ⟨c3, hc3⟩ : ∃ c, ub (imm) = c := ⟨_, rfl⟩
  have v3 : (c3.toNat : Int) = (imm) % 256 := by rw [← hc3, ub_val]
  rw [hc3] at e
  clear hc3
  refine ⟨{ steps := [(254, 72), (255, 131), (248, 232)], more := 1, op := 14, alu := 1, cc := 0 }, by decide +kernel, by rw [e]; simp [Form.size], fun more => ?_, ?_⟩
  · rw [e]
    unfold rexI at v0
    simp [Form.fits, fitsGo, stepOk, Form.mem, m254, m255, m248]
    all_goals ((repeat' split at v0) <;> ((repeat' apply And.intro) <;> omega))
  · rw [e]
    unfold rexI at v0
    simp [Form.ins, leNat]
    all_goals ((repeat' split at v0) <;> ((repeat' apply And.intro) <;> first | omega | (unfold sx32; omega) | (unfold sx8; omega) | (unfold wrap64 at *; unfold sx8; omega)))
theorem fo_14_7 (b imm : Int) (hb0 : 0 ≤ b) (hb1 : b ≤ 15) (hi0 : 0 ≤ imm) (hi1 : imm < 18446744073709551616) (hs0 : -128 ≤ wrap64 imm) (hs1 : wrap64 imm ≤ 127) : Of ⟨14, 0, b, 7, 0, imm, 0⟩ := by
  have e : encL ⟨14, 0, b, 7, 0, imm, 0⟩ = [ub (rexI 0 b), 131, ub (248 + b % 8), ub (imm)] := by simp [encL, codeOf]
  obtain ⟨c0, hc0⟩ : ∃ c, ub (rexI 0 b) = c := ⟨_, rfl⟩
  have v0 : (c0.toNat : Int) = rexI 0 b := by rw [← hc0, ub_id (rexI_bd _ _).1 (rexI_bd _ _).2]
  rw [hc0] at e
  clear hc0
  obtain ⟨c2, hc2⟩ : ∃ c, ub (248 + b % 8) = c := ⟨_, rfl⟩
  have v2 : (c2.toNat : Int) = 248 + b % 8 := by rw [← hc2, ub_id (by omega) (by omega)]
  rw [hc2] at e
  clear hc2
  obtain ⟨c3, hc3⟩ : ∃ c, ub (imm) = c := ⟨_, rfl⟩
  have v3 : (c3.toNat : Int) = (imm) % 256 := by rw [← hc3, ub_val]
  rw [hc3] at e
  clear hc3
  refine ⟨{ steps := [(254, 72), (255, 131), (248, 248)], more := 1, op := 14, alu := 7, cc := 0 }, by decide +kernel, by rw [e]; simp [Form.size], fun more => ?_, ?_⟩
  · rw [e]
    unfold rexI at v0
    simp [Form.fits, fitsGo, stepOk, Form.mem, m254, m255, m248]
    all_goals ((repeat' split at v0) <;> ((repeat' apply And.intro) <;> omega))
  · rw [e]
    unfold rexI at v0
    simp [Form.ins, leNat]
    all_goals ((repeat' split at v0) <;> ((repeat' apply And.intro) <;> first | omega | (unfold sx32; omega) | (unfold sx8; omega) | (unfold wrap64 at *; unfold sx8; omega)))
theorem fo_15_5 (b : Int) (hb0 : 0 ≤ b) (hb1 : b ≤ 15) : Of ⟨15, 0, b, 5, 0, 0, 0⟩ := by
  have e : encL ⟨15, 0, b, 5, 0, 0, 0⟩ = [ub (rexI 0 b), 255, ub (192 + b % 8)] := by simp [encL, codeOf]
  obtain ⟨c0, hc0⟩ : ∃ c, ub (rexI 0 b) = c := ⟨_, rfl⟩
  have v0 : (c0.toNat : Int) = rexI 0 b := by rw [← hc0, ub_id (rexI_bd _ _).1 (rexI_bd _ _).2]
  rw [hc0] at e
  clear hc0
  obtain ⟨c2, hc2⟩ : ∃ c, ub (192 + b % 8) = c := ⟨_, rfl⟩
  have v2 : (c2.toNat : Int) = 192 + b % 8 := by rw [← hc2, ub_id (by omega) (by omega)]
  rw [hc2] at e
  clear hc2
  refine ⟨{ steps := [(254, 72), (255, 255), (248, 192)], more := 0, op := 15, alu := 5, cc := 0 }, by decide +kernel, by rw [e]; simp [Form.size], fun more => ?_, ?_⟩
  · rw [e]
    unfold rexI at v0
    simp [Form.fits, fitsGo, stepOk, Form.mem, m254, m255, m248]
    all_goals ((repeat' split at v0) <;> ((repeat' apply And.intro) <;> omega))
  · rw [e]
    unfold rexI at v0
    simp [Form.ins, leNat]
    all_goals ((repeat' split at v0) <;> ((repeat' apply And.intro) <;> first | omega | (unfold sx32; omega) | (unfold sx8; omega)))
theorem fo_15_6 (b : Int) (hb0 : 0 ≤ b) (hb1 : b ≤ 15) : Of ⟨15, 0, b, 6, 0, 0, 0⟩ := by
  have e : encL ⟨15, 0, b, 6, 0, 0, 0⟩ = [ub (rexI 0 b), 255, ub (200 + b % 8)] := by simp [encL, codeOf]
  obtain ⟨c0, hc0⟩ : ∃ c, ub (rexI 0 b) = c := ⟨_, rfl⟩
  have v0 : (c0.toNat : Int) = rexI 0 b := by rw [← hc0, ub_id (rexI_bd _ _).1 (rexI_bd _ _).2]
  rw [hc0] at e
  clear hc0
  obtain ⟨c2, hc2⟩ : ∃ c, ub (200 + b % 8) = c := ⟨_, rfl⟩
  have v2 : (c2.toNat : Int) = 200 + b % 8 := by rw [← hc2, ub_id (by omega) (by omega)]
  rw [hc2] at e
  clear hc2
  refine ⟨{ steps := [(254, 72), (255, 255), (248, 200)], more := 0, op := 15, alu := 6, cc := 0 }, by decide +kernel, by rw [e]; simp [Form.size], fun more => ?_, ?_⟩
  · rw [e]
    unfold rexI at v0
    simp [Form.fits, fitsGo, stepOk, Form.mem, m254, m255, m248]
    all_goals ((repeat' split at v0) <;> ((repeat' apply And.intro) <;> omega))
  · rw [e]
    unfold rexI at v0
    simp [Form.ins, leNat]
    all_goals ((repeat' split at v0) <;> ((repeat' apply And.intro) <;> first | omega | (unfold sx32; omega) | (unfold sx8; omega)))
theorem fo_16_9 (b imm : Int) (hb0 : 0 ≤ b) (hb1 : b ≤ 15) (hi0 : 0 ≤ imm) (hi1 : imm ≤ 255) : Of ⟨16, 0, b, 9, 0, imm, 0⟩ := by
  have e : encL ⟨16, 0, b, 9, 0, imm, 0⟩ = [ub (rexI 0 b), 193, ub (224 + b % 8), ub (imm)] := by simp [encL, codeOf]
  obtain ⟨c0, hc0⟩ : ∃ c, ub (rexI 0 b) = c := ⟨_, rfl⟩
  have v0 : (c0.toNat : Int) = rexI 0 b := by rw [← hc0, ub_id (rexI_bd _ _).1 (rexI_bd _ _).2]
  rw [hc0] at e
  clear hc0
  obtain ⟨c2, hc2⟩ : ∃ c, ub (224 + b % 8) = c := ⟨_, rfl⟩
  have v2 : (c2.toNat : Int) = 224 + b % 8 := by rw [← hc2, ub_id (by omega) (by omega)]
  rw [hc2] at e
  clear hc2
  obtain ⟨c3, hc3⟩ : ∃ c, ub (imm) = c := ⟨_, rfl⟩
  have v3 : (c3.toNat : Int) = imm := by rw [← hc3, ub_id (by omega) (by omega)]
  rw [hc3] at e
  clear hc3
  refine ⟨{ steps := [(254, 72), (255, 193), (248, 224)], more := 1, op := 16, alu := 9, cc := 0 }, by decide +kernel, by rw [e]; simp [Form.size], fun more => ?_, ?_⟩
  · rw [e]
    unfold rexI at v0
    simp [Form.fits, fitsGo, stepOk, Form.mem, m254, m255, m248]
    all_goals ((repeat' split at v0) <;> ((repeat' apply And.intro) <;> omega))
  · rw [e]
    unfold rexI at v0
    simp [Form.ins, leNat]
    all_goals ((repeat' split at v0) <;> ((repeat' apply And.intro) <;> first | omega | (unfold sx32; omega) | (unfold sx8; omega)))
theorem fo_16_10 (b imm : Int) (hb0 : 0 ≤ b) (hb1 : b ≤ 15) (hi0 : 0 ≤ imm) (hi1 : imm ≤ 255) : Of ⟨16, 0, b, 10, 0, imm, 0⟩ := by
  have e : encL ⟨16, 0, b, 10, 0, imm, 0⟩ = [ub (rexI 0 b), 193, ub (232 + b % 8), ub (imm)] := by simp [encL, codeOf]
  obtain ⟨c0, hc0⟩ : ∃ c, ub (rexI 0 b) = c := ⟨_, rfl⟩
  have v0 : (c0.toNat : Int) = rexI 0 b := by rw [← hc0, ub_id (rexI_bd _ _).1 (rexI_bd _ _).2]
  rw [hc0] at e
  clear hc0
  obtain ⟨c2, hc2⟩ : ∃ c, ub (232 + b % 8) = c := ⟨_, rfl⟩
  have v2 : (c2.toNat : Int) = 232 + b % 8 := by rw [← hc2, ub_id (by omega) (by omega)]
  rw [hc2] at e
  clear hc2
  obtain ⟨c3, hc3⟩ : ∃ c, ub (imm) = c := ⟨_, rfl⟩
  have v3 : (c3.toNat : Int) = imm := by rw [← hc3, ub_id (by omega) (by omega)]
  rw [hc3] at e
  clear hc3
  refine ⟨{ steps := [(254, 72), (255, 193), (248, 232)], more := 1, op := 16, alu := 10, cc := 0 }, by decide +kernel, by rw [e]; simp [Form.size], fun more => ?_, ?_⟩
  · rw [e]
    unfold rexI at v0
    simp [Form.fits, fitsGo, stepOk, Form.mem, m254, m255, m248]
    all_goals ((repeat' split at v0) <;> ((repeat' apply And.intro) <;> omega))
  · rw [e]
    unfold rexI at v0
    simp [Form.ins, leNat]
    all_goals ((repeat' split at v0) <;> ((repeat' apply And.intro) <;> first | omega | (unfold sx32; omega) | (unfold sx8; omega)))
theorem fo_17 (d : Int) (hd0 : -2147483648 ≤ d) (hd1 : d ≤ 2147483647) : Of ⟨17, 0, 0, 0, 0, 0, d⟩ := by
  have e : encL ⟨17, 0, 0, 0, 0, 0, d⟩ = [232] ++ leB d 4 := by simp [encL]
  refine ⟨{ steps := [(255, 232)], more := 4, op := 17, alu := 0, cc := 0 }, by decide +kernel, by rw [e]; simp [Form.size, leB_length], fun more => ?_, ?_⟩
  · rw [e]
    simp [Form.fits, fitsGo, stepOk, Form.mem]
  · rw [e]
    simp [Form.ins, leNat_leB]
    all_goals (((repeat' apply And.intro) <;> first | omega | (unfold sx32; omega) | (unfold sx8; omega)))
theorem fo_18 (d : Int) (hd0 : -2147483648 ≤ d) (hd1 : d ≤ 2147483647) : Of ⟨18, 0, 0, 0, 0, 0, d⟩ := by
  have e : encL ⟨18, 0, 0, 0, 0, 0, d⟩ = [233] ++ leB d 4 := by simp [encL]
  refine ⟨{ steps := [(255, 233)], more := 4, op := 18, alu := 0, cc := 0 }, by decide +kernel, by rw [e]; simp [Form.size, leB_length], fun more => ?_, ?_⟩
  · rw [e]
    simp [Form.fits, fitsGo, stepOk, Form.mem]
  · rw [e]
    simp [Form.ins, leNat_leB]
    all_goals (((repeat' apply And.intro) <;> first | omega | (unfold sx32; omega) | (unfold sx8; omega)))
theorem fo_21 (d : Int) (hd0 : -2147483648 ≤ d) (hd1 : d ≤ 2147483647) : Of ⟨21, 0, 0, 0, 0, 0, d⟩ := by
  have e : encL ⟨21, 0, 0, 0, 0, 0, d⟩ = [255, 21] ++ leB d 4 := by simp [encL]
  refine ⟨{ steps := [(255, 255), (255, 21)], more := 4, op := 21, alu := 0, cc := 0 }, by decide +kernel, by rw [e]; simp [Form.size, leB_length], fun more => ?_, ?_⟩
  · rw [e]
    simp [Form.fits, fitsGo, stepOk, Form.mem]
  · rw [e]
    simp [Form.ins, leNat_leB]
    all_goals (((repeat' apply And.intro) <;> first | omega | (unfold sx32; omega) | (unfold sx8; omega)))
theorem fo_22 (d : Int) (hd0 : -2147483648 ≤ d) (hd1 : d ≤ 2147483647) : Of ⟨22, 0, 0, 0, 0, 0, d⟩ := by
  have e : encL ⟨22, 0, 0, 0, 0, 0, d⟩ = [255, 37] ++ leB d 4 := by simp [encL]
  refine ⟨{ steps := [(255, 255), (255, 37)], more := 4, op := 22, alu := 0, cc := 0 }, by decide +kernel, by rw [e]; simp [Form.size, leB_length], fun more => ?_, ?_⟩
  · rw [e]
    simp [Form.fits, fitsGo, stepOk, Form.mem]
  · rw [e]
    simp [Form.ins, leNat_leB]
    all_goals (((repeat' apply And.intro) <;> first | omega | (unfold sx32; omega) | (unfold sx8; omega)))
theorem fo_19 (d : Int) (hd0 : -128 ≤ d) (hd1 : d ≤ 127) : Of ⟨19, 0, 0, 0, 0, 0, d⟩ := by
  have e : encL ⟨19, 0, 0, 0, 0, 0, d⟩ = [235, ub (d)] := by simp [encL]
  obtain ⟨c1, hc1⟩ : ∃ c, ub (d) = c := ⟨_, rfl⟩
  have v1 : (c1.toNat : Int) = (d) % 256 := by rw [← hc1, ub_val]
  rw [hc1] at e
  clear hc1
  refine ⟨{ steps := [(255, 235)], more := 1, op := 19, alu := 0, cc := 0 }, by decide +kernel, by rw [e]; simp [Form.size], fun more => ?_, ?_⟩
  · rw [e]
    simp [Form.fits, fitsGo, stepOk, Form.mem, m255]
  · rw [e]
    simp [Form.ins, leNat]
    all_goals (((repeat' apply And.intro) <;> first | omega | (unfold sx32; omega) | (unfold sx8; omega)))
theorem fo_20_2 (d : Int) (hd0 : -128 ≤ d) (hd1 : d ≤ 127) : Of ⟨20, 0, 0, 0, 2, 0, d⟩ := by
  have e : encL ⟨20, 0, 0, 0, 2, 0, d⟩ = [114, ub (d)] := by simp [encL, ub]
  obtain ⟨c1, hc1⟩ : ∃ c, ub (d) = c := ⟨_, rfl⟩
  have v1 : (c1.toNat : Int) = (d) % 256 := by rw [← hc1, ub_val]
  rw [hc1] at e
  clear hc1
  refine ⟨{ steps := [(255, 114)], more := 1, op := 20, alu := 0, cc := 2 }, by decide +kernel, by rw [e]; simp [Form.size], fun more => ?_, ?_⟩
  · rw [e]
    simp [Form.fits, fitsGo, stepOk, Form.mem, m255]
  · rw [e]
    simp [Form.ins, leNat]
    all_goals (((repeat' apply And.intro) <;> first | omega | (unfold sx32; omega) | (unfold sx8; omega)))
theorem fo_20_3 (d : Int) (hd0 : -128 ≤ d) (hd1 : d ≤ 127) : Of ⟨20, 0, 0, 0, 3, 0, d⟩ := by
  have e : encL ⟨20, 0, 0, 0, 3, 0, d⟩ = [115, ub (d)] := by simp [encL, ub]
  obtain ⟨c1, hc1⟩ : ∃ c, ub (d) = c := ⟨_, rfl⟩
  have v1 : (c1.toNat : Int) = (d) % 256 := by rw [← hc1, ub_val]
  rw [hc1] at e
  clear hc1
  refine ⟨{ steps := [(255, 115)], more := 1, op := 20, alu := 0, cc := 3 }, by decide +kernel, by rw [e]; simp [Form.size], fun more => ?_, ?_⟩
  · rw [e]
    simp [Form.fits, fitsGo, stepOk, Form.mem, m255]
  · rw [e]
    simp [Form.ins, leNat]
    all_goals (((repeat' apply And.intro) <;> first | omega | (unfold sx32; omega) | (unfold sx8; omega)))
theorem fo_20_4 (d : Int) (hd0 : -128 ≤ d) (hd1 : d ≤ 127) : Of ⟨20, 0, 0, 0, 4, 0, d⟩ := by
  have e : encL ⟨20, 0, 0, 0, 4, 0, d⟩ = [116, ub (d)] := by simp [encL, ub]
  obtain ⟨c1, hc1⟩ : ∃ c, ub (d) = c := ⟨_, rfl⟩
  have v1 : (c1.toNat : Int) = (d) % 256 := by rw [← hc1, ub_val]
  rw [hc1] at e
  clear hc1
  refine ⟨{ steps := [(255, 116)], more := 1, op := 20, alu := 0, cc := 4 }, by decide +kernel, by rw [e]; simp [Form.size], fun more => ?_, ?_⟩
  · rw [e]
    simp [Form.fits, fitsGo, stepOk, Form.mem, m255]
  · rw [e]
    simp [Form.ins, leNat]
    all_goals (((repeat' apply And.intro) <;> first | omega | (unfold sx32; omega) | (unfold sx8; omega)))
theorem fo_20_5 (d : Int) (hd0 : -128 ≤ d) (hd1 : d ≤ 127) : Of ⟨20, 0, 0, 0, 5, 0, d⟩ := by
  have e : encL ⟨20, 0, 0, 0, 5, 0, d⟩ = [117, ub (d)] := by simp [encL, ub]
  obtain ⟨c1, hc1⟩ : ∃ c, ub (d) = c := ⟨_, rfl⟩
  have v1 : (c1.toNat : Int) = (d) % 256 := by rw [← hc1, ub_val]
  rw [hc1] at e
  clear hc1
  refine ⟨{ steps := [(255, 117)], more := 1, op := 20, alu := 0, cc := 5 }, by decide +kernel, by rw [e]; simp [Form.size], fun more => ?_, ?_⟩
  · rw [e]
    simp [Form.fits, fitsGo, stepOk, Form.mem, m255]
  · rw [e]
    simp [Form.ins, leNat]
    all_goals (((repeat' apply And.intro) <;> first | omega | (unfold sx32; omega) | (unfold sx8; omega)))
theorem fo_20_8 (d : Int) (hd0 : -128 ≤ d) (hd1 : d ≤ 127) : Of ⟨20, 0, 0, 0, 8, 0, d⟩ := by
  have e : encL ⟨20, 0, 0, 0, 8, 0, d⟩ = [120, ub (d)] := by simp [encL, ub]
  obtain ⟨c1, hc1⟩ : ∃ c, ub (d) = c := ⟨_, rfl⟩
  have v1 : (c1.toNat : Int) = (d) % 256 := by rw [← hc1, ub_val]
  rw [hc1] at e
  clear hc1
  refine ⟨{ steps := [(255, 120)], more := 1, op := 20, alu := 0, cc := 8 }, by decide +kernel, by rw [e]; simp [Form.size], fun more => ?_, ?_⟩
  · rw [e]
    simp [Form.fits, fitsGo, stepOk, Form.mem, m255]
  · rw [e]
    simp [Form.ins, leNat]
    all_goals (((repeat' apply And.intro) <;> first | omega | (unfold sx32; omega) | (unfold sx8; omega)))
theorem fo_20_9 (d : Int) (hd0 : -128 ≤ d) (hd1 : d ≤ 127) : Of ⟨20, 0, 0, 0, 9, 0, d⟩ := by
  have e : encL ⟨20, 0, 0, 0, 9, 0, d⟩ = [121, ub (d)] := by simp [encL, ub]
  obtain ⟨c1, hc1⟩ : ∃ c, ub (d) = c := ⟨_, rfl⟩
  have v1 : (c1.toNat : Int) = (d) % 256 := by rw [← hc1, ub_val]
  rw [hc1] at e
  clear hc1
  refine ⟨{ steps := [(255, 121)], more := 1, op := 20, alu := 0, cc := 9 }, by decide +kernel, by rw [e]; simp [Form.size], fun more => ?_, ?_⟩
  · rw [e]
    simp [Form.fits, fitsGo, stepOk, Form.mem, m255]
  · rw [e]
    simp [Form.ins, leNat]
    all_goals (((repeat' apply And.intro) <;> first | omega | (unfold sx32; omega) | (unfold sx8; omega)))
theorem fo_20_12 (d : Int) (hd0 : -128 ≤ d) (hd1 : d ≤ 127) : Of ⟨20, 0, 0, 0, 12, 0, d⟩ := by
  have e : encL ⟨20, 0, 0, 0, 12, 0, d⟩ = [124, ub (d)] := by simp [encL, ub]
  obtain ⟨c1, hc1⟩ : ∃ c, ub (d) = c := ⟨_, rfl⟩
  have v1 : (c1.toNat : Int) = (d) % 256 := by rw [← hc1, ub_val]
  rw [hc1] at e
  clear hc1
  refine ⟨{ steps := [(255, 124)], more := 1, op := 20, alu := 0, cc := 12 }, by decide +kernel, by rw [e]; simp [Form.size], fun more => ?_, ?_⟩
  · rw [e]
    simp [Form.fits, fitsGo, stepOk, Form.mem, m255]
  · rw [e]
    simp [Form.ins, leNat]
    all_goals (((repeat' apply And.intro) <;> first | omega | (unfold sx32; omega) | (unfold sx8; omega)))
theorem fo_20_13 (d : Int) (hd0 : -128 ≤ d) (hd1 : d ≤ 127) : Of ⟨20, 0, 0, 0, 13, 0, d⟩ := by
  have e : encL ⟨20, 0, 0, 0, 13, 0, d⟩ = [125, ub (d)] := by simp [encL, ub]
  obtain ⟨c1, hc1⟩ : ∃ c, ub (d) = c := ⟨_, rfl⟩
  have v1 : (c1.toNat : Int) = (d) % 256 := by rw [← hc1, ub_val]
  rw [hc1] at e
  clear hc1
  refine ⟨{ steps := [(255, 125)], more := 1, op := 20, alu := 0, cc := 13 }, by decide +kernel, by rw [e]; simp [Form.size], fun more => ?_, ?_⟩
  · rw [e]
    simp [Form.fits, fitsGo, stepOk, Form.mem, m255]
  · rw [e]
    simp [Form.ins, leNat]
    all_goals (((repeat' apply And.intro) <;> first | omega | (unfold sx32; omega) | (unfold sx8; omega)))
theorem fo_23 (imm : Int) (hi0 : 0 ≤ imm) (hi1 : imm ≤ 255) : Of ⟨23, 0, 0, 0, 0, imm, 0⟩ := by
  have e : encL ⟨23, 0, 0, 0, 0, imm, 0⟩ = [205, ub (imm)] := by simp [encL]
  obtain ⟨c1, hc1⟩ : ∃ c, ub (imm) = c := ⟨_, rfl⟩
  have v1 : (c1.toNat : Int) = imm := by rw [← hc1, ub_id (by omega) (by omega)]
  rw [hc1] at e
  clear hc1
  refine ⟨{ steps := [(255, 205)], more := 1, op := 23, alu := 0, cc := 0 }, by decide +kernel, by rw [e]; simp [Form.size], fun more => ?_, ?_⟩
  · rw [e]
    simp [Form.fits, fitsGo, stepOk, Form.mem, m255]
  · rw [e]
    simp [Form.ins, leNat]
    all_goals (((repeat' apply And.intro) <;> first | omega | (unfold sx32; omega) | (unfold sx8; omega)))
end Go.Proofs.Ytegnmnhdpnmnpaa
