/- Form by form: what is decoded may be, and has those bytes. -/
import Derived.Test.YtegnmnhdpnmnpaaPlain
namespace Go.Proofs.Ytegnmnhdpnmnpaa
set_option linter.unusedVariables false
set_option linter.unusedSimpArgs false
open Go.RowKit
theorem split1 {bs : List UInt8} {m : Nat} (h : bs.length = 1 + m) : ∃ b0 l, bs = b0 :: l ∧ l.length = m := by
  match bs, h with
  | b0 :: l, h => exact ⟨b0, l, rfl, by simp only [List.length_cons] at h; omega⟩
  | [], h => simp only [List.length_nil] at h; omega
theorem split2 {bs : List UInt8} {m : Nat} (h : bs.length = 2 + m) : ∃ b0 b1 l, bs = b0 :: b1 :: l ∧ l.length = m := by
  obtain ⟨b0, l, rfl, h0⟩ := split1 (bs := bs) (m := 1 + m) (by omega)
  obtain ⟨b1, l, rfl, h1⟩ := split1 h0
  exact ⟨b0, b1, l, rfl, h1⟩
theorem split3 {bs : List UInt8} {m : Nat} (h : bs.length = 3 + m) : ∃ b0 b1 b2 l, bs = b0 :: b1 :: b2 :: l ∧ l.length = m := by
  obtain ⟨b0, l, rfl, h0⟩ := split1 (bs := bs) (m := 2 + m) (by omega)
  obtain ⟨b1, b2, l, rfl, h1⟩ := split2 h0
  exact ⟨b0, b1, b2, l, rfl, h1⟩
def Back (x : Ins) (bs : List UInt8) : Prop := okB x = true ∧ encL x = bs ∧ 0 ≤ x.imm ∧ x.imm < 18446744073709551616
theorem fb_0 (bs : List UInt8) (hfit : Form.fits { steps := [(255, 144)], more := 0, op := 1, alu := 0, cc := 0 } bs = true) (hlen : bs.length = 1 + 0) : Back (Form.ins { steps := [(255, 144)], more := 0, op := 1, alu := 0, cc := 0 } bs) bs := by
  obtain ⟨b0, l, rfl, hl⟩ := split1 hlen
  have h0 := b0.toNat_lt
  simp [Form.fits, fitsGo, stepOk, Form.mem, m255] at hfit
  have hv := leNat_lt l
  have hb := leB_leNat l
  rw [hl] at hv hb
  obtain rfl : l = [] := List.eq_nil_of_length_eq_zero hl
  have hI : Form.ins { steps := [(255, 144)], more := 0, op := 1, alu := 0, cc := 0 } (b0 :: []) = ⟨1, 0, 0, 0, 0, 0, 0⟩ := by
    simp [Form.ins, leNat]
  rw [hI]
  clear hI
  refine ⟨?_, ?_, ?_, ?_⟩
  · (simp [okB, okCond, okRest, regB] <;> omega)
  · simp only [encL]
    simp
    (repeat' apply And.intro) <;> first | exact hb | (apply ub_eq; (try simp only [rexI]); (repeat' split) <;> omega) | (apply UInt8.toNat_inj.1; simp; omega)
  · (simp <;> omega)
  · (simp <;> omega)
theorem fb_1 (bs : List UInt8) (hfit : Form.fits { steps := [(255, 195)], more := 0, op := 2, alu := 0, cc := 0 } bs = true) (hlen : bs.length = 1 + 0) : Back (Form.ins { steps := [(255, 195)], more := 0, op := 2, alu := 0, cc := 0 } bs) bs := by
  obtain ⟨b0, l, rfl, hl⟩ := split1 hlen
  have h0 := b0.toNat_lt
  simp [Form.fits, fitsGo, stepOk, Form.mem, m255] at hfit
  have hv := leNat_lt l
  have hb := leB_leNat l
  rw [hl] at hv hb
  obtain rfl : l = [] := List.eq_nil_of_length_eq_zero hl
  have hI : Form.ins { steps := [(255, 195)], more := 0, op := 2, alu := 0, cc := 0 } (b0 :: []) = ⟨2, 0, 0, 0, 0, 0, 0⟩ := by
    simp [Form.ins, leNat]
  rw [hI]
  clear hI
  refine ⟨?_, ?_, ?_, ?_⟩
  · (simp [okB, okCond, okRest, regB] <;> omega)
  · simp only [encL]
    simp
    (repeat' apply And.intro) <;> first | exact hb | (apply ub_eq; (try simp only [rexI]); (repeat' split) <;> omega) | (apply UInt8.toNat_inj.1; simp; omega)
  · (simp <;> omega)
  · (simp <;> omega)
theorem fb_2 (bs : List UInt8) (hfit : Form.fits { steps := [(255, 232)], more := 4, op := 17, alu := 0, cc := 0 } bs = true) (hlen : bs.length = 1 + 4) : Back (Form.ins { steps := [(255, 232)], more := 4, op := 17, alu := 0, cc := 0 } bs) bs := by
  obtain ⟨b0, l, rfl, hl⟩ := split1 hlen
  have h0 := b0.toNat_lt
  simp [Form.fits, fitsGo, stepOk, Form.mem, m255] at hfit
  have hv := leNat_lt l
  have hb := leB_leNat l
  rw [hl] at hv hb
  have hI : Form.ins { steps := [(255, 232)], more := 4, op := 17, alu := 0, cc := 0 } (b0 :: l) = ⟨17, 0, 0, 0, 0, 0, sx32 (leNat l : Int)⟩ := by
    simp [Form.ins]
  rw [hI]
  clear hI
  obtain ⟨d, hd, hd0, hd1⟩ : ∃ d, sx32 (leNat l : Int) = d ∧ -2147483648 ≤ d ∧ d ≤ 2147483647 := ⟨_, rfl, by unfold sx32; omega, by unfold sx32; omega⟩
  have hd4 : leB d 4 = l := by rw [← hd, leB_sx32]; exact hb
  rw [hd]
  refine ⟨?_, ?_, ?_, ?_⟩
  · (simp [okB, okCond, okRest, regB, wideB] <;> omega)
  · simp only [encL]
    simp
    (repeat' apply And.intro) <;> first | exact hd4 | exact hb | (apply ub_eq; (try simp only [rexI]); (repeat' split) <;> omega) | (apply UInt8.toNat_inj.1; simp; omega)
  · (simp <;> omega)
  · (simp <;> omega)
theorem fb_3 (bs : List UInt8) (hfit : Form.fits { steps := [(255, 233)], more := 4, op := 18, alu := 0, cc := 0 } bs = true) (hlen : bs.length = 1 + 4) : Back (Form.ins { steps := [(255, 233)], more := 4, op := 18, alu := 0, cc := 0 } bs) bs := by
  obtain ⟨b0, l, rfl, hl⟩ := split1 hlen
  have h0 := b0.toNat_lt
  simp [Form.fits, fitsGo, stepOk, Form.mem, m255] at hfit
  have hv := leNat_lt l
  have hb := leB_leNat l
  rw [hl] at hv hb
  have hI : Form.ins { steps := [(255, 233)], more := 4, op := 18, alu := 0, cc := 0 } (b0 :: l) = ⟨18, 0, 0, 0, 0, 0, sx32 (leNat l : Int)⟩ := by
    simp [Form.ins]
  rw [hI]
  clear hI
  obtain ⟨d, hd, hd0, hd1⟩ : ∃ d, sx32 (leNat l : Int) = d ∧ -2147483648 ≤ d ∧ d ≤ 2147483647 := ⟨_, rfl, by unfold sx32; omega, by unfold sx32; omega⟩
  have hd4 : leB d 4 = l := by rw [← hd, leB_sx32]; exact hb
  rw [hd]
  refine ⟨?_, ?_, ?_, ?_⟩
  · (simp [okB, okCond, okRest, regB, wideB] <;> omega)
  · simp only [encL]
    simp
    (repeat' apply And.intro) <;> first | exact hd4 | exact hb | (apply ub_eq; (try simp only [rexI]); (repeat' split) <;> omega) | (apply UInt8.toNat_inj.1; simp; omega)
  · (simp <;> omega)
  · (simp <;> omega)
theorem fb_4 (bs : List UInt8) (hfit : Form.fits { steps := [(255, 235)], more := 1, op := 19, alu := 0, cc := 0 } bs = true) (hlen : bs.length = 1 + 1) : Back (Form.ins { steps := [(255, 235)], more := 1, op := 19, alu := 0, cc := 0 } bs) bs := by
  obtain ⟨b0, l, rfl, hl⟩ := split1 hlen
  have h0 := b0.toNat_lt
  simp [Form.fits, fitsGo, stepOk, Form.mem, m255] at hfit
  have hv := leNat_lt l
  have hb := leB_leNat l
  rw [hl] at hv hb
  have hI : Form.ins { steps := [(255, 235)], more := 1, op := 19, alu := 0, cc := 0 } (b0 :: l) = ⟨19, 0, 0, 0, 0, 0, sx8 (leNat l : Int)⟩ := by
    simp [Form.ins]
  rw [hI]
  clear hI
  obtain ⟨d, hd, hd0, hd1⟩ : ∃ d, sx8 (leNat l : Int) = d ∧ -128 ≤ d ∧ d ≤ 127 := ⟨_, rfl, by unfold sx8; omega, by unfold sx8; omega⟩
  have hd4 : [ub d] = l := by rw [← hd, ub_sx8]; exact hb
  rw [hd]
  refine ⟨?_, ?_, ?_, ?_⟩
  · (simp [okB, okCond, okRest, regB, shortB] <;> omega)
  · simp only [encL]
    simp
    (repeat' apply And.intro) <;> first | exact hd4 | exact hb | (apply ub_eq; (try simp only [rexI]); (repeat' split) <;> omega) | (apply UInt8.toNat_inj.1; simp; omega)
  · (simp <;> omega)
  · (simp <;> omega)
theorem fb_5 (bs : List UInt8) (hfit : Form.fits { steps := [(255, 255), (255, 21)], more := 4, op := 21, alu := 0, cc := 0 } bs = true) (hlen : bs.length = 2 + 4) : Back (Form.ins { steps := [(255, 255), (255, 21)], more := 4, op := 21, alu := 0, cc := 0 } bs) bs := by
  obtain ⟨b0, b1, l, rfl, hl⟩ := split2 hlen
  have h0 := b0.toNat_lt
  have h1 := b1.toNat_lt
  simp [Form.fits, fitsGo, stepOk, Form.mem, m255] at hfit
  have hv := leNat_lt l
  have hb := leB_leNat l
  rw [hl] at hv hb
  have hI : Form.ins { steps := [(255, 255), (255, 21)], more := 4, op := 21, alu := 0, cc := 0 } (b0 :: b1 :: l) = ⟨21, 0, 0, 0, 0, 0, sx32 (leNat l : Int)⟩ := by
    simp [Form.ins]
  rw [hI]
  clear hI
  obtain ⟨d, hd, hd0, hd1⟩ : ∃ d, sx32 (leNat l : Int) = d ∧ -2147483648 ≤ d ∧ d ≤ 2147483647 := ⟨_, rfl, by unfold sx32; omega, by unfold sx32; omega⟩
  have hd4 : leB d 4 = l := by rw [← hd, leB_sx32]; exact hb
  rw [hd]
  refine ⟨?_, ?_, ?_, ?_⟩
  · (simp [okB, okCond, okRest, regB, wideB] <;> omega)
  · simp only [encL]
    simp
    (repeat' apply And.intro) <;> first | exact hd4 | exact hb | (apply ub_eq; (try simp only [rexI]); (repeat' split) <;> omega) | (apply UInt8.toNat_inj.1; simp; omega)
  · (simp <;> omega)
  · (simp <;> omega)
theorem fb_6 (bs : List UInt8) (hfit : Form.fits { steps := [(255, 255), (255, 37)], more := 4, op := 22, alu := 0, cc := 0 } bs = true) (hlen : bs.length = 2 + 4) : Back (Form.ins { steps := [(255, 255), (255, 37)], more := 4, op := 22, alu := 0, cc := 0 } bs) bs := by
  obtain ⟨b0, b1, l, rfl, hl⟩ := split2 hlen
  have h0 := b0.toNat_lt
  have h1 := b1.toNat_lt
  simp [Form.fits, fitsGo, stepOk, Form.mem, m255] at hfit
  have hv := leNat_lt l
  have hb := leB_leNat l
  rw [hl] at hv hb
  have hI : Form.ins { steps := [(255, 255), (255, 37)], more := 4, op := 22, alu := 0, cc := 0 } (b0 :: b1 :: l) = ⟨22, 0, 0, 0, 0, 0, sx32 (leNat l : Int)⟩ := by
    simp [Form.ins]
  rw [hI]
  clear hI
  obtain ⟨d, hd, hd0, hd1⟩ : ∃ d, sx32 (leNat l : Int) = d ∧ -2147483648 ≤ d ∧ d ≤ 2147483647 := ⟨_, rfl, by unfold sx32; omega, by unfold sx32; omega⟩
  have hd4 : leB d 4 = l := by rw [← hd, leB_sx32]; exact hb
  rw [hd]
  refine ⟨?_, ?_, ?_, ?_⟩
  · (simp [okB, okCond, okRest, regB, wideB] <;> omega)
  · simp only [encL]
    simp
    (repeat' apply And.intro) <;> first | exact hd4 | exact hb | (apply ub_eq; (try simp only [rexI]); (repeat' split) <;> omega) | (apply UInt8.toNat_inj.1; simp; omega)
  · (simp <;> omega)
  · (simp <;> omega)
theorem fb_7 (bs : List UInt8) (hfit : Form.fits { steps := [(255, 205)], more := 1, op := 23, alu := 0, cc := 0 } bs = true) (hlen : bs.length = 1 + 1) : Back (Form.ins { steps := [(255, 205)], more := 1, op := 23, alu := 0, cc := 0 } bs) bs := by
  obtain ⟨b0, l, rfl, hl⟩ := split1 hlen
  have h0 := b0.toNat_lt
  simp [Form.fits, fitsGo, stepOk, Form.mem, m255] at hfit
  have hv := leNat_lt l
  have hb := leB_leNat l
  rw [hl] at hv hb
  have hI : Form.ins { steps := [(255, 205)], more := 1, op := 23, alu := 0, cc := 0 } (b0 :: l) = ⟨23, 0, 0, 0, 0, (leNat l : Int), 0⟩ := by
    simp [Form.ins]
  rw [hI]
  clear hI
  have hd4 : [ub (leNat l : Int)] = l := hb
  refine ⟨?_, ?_, ?_, ?_⟩
  · (simp [okB, okCond, okRest, regB] <;> omega)
  · simp only [encL]
    simp
    (repeat' apply And.intro) <;> first | exact hd4 | exact hb | (apply ub_eq; (try simp only [rexI]); (repeat' split) <;> omega) | (apply UInt8.toNat_inj.1; simp; omega)
  · (simp <;> omega)
  · (simp <;> omega)
theorem fb_8 (bs : List UInt8) (hfit : Form.fits { steps := [(255, 114)], more := 1, op := 20, alu := 0, cc := 2 } bs = true) (hlen : bs.length = 1 + 1) : Back (Form.ins { steps := [(255, 114)], more := 1, op := 20, alu := 0, cc := 2 } bs) bs := by
  obtain ⟨b0, l, rfl, hl⟩ := split1 hlen
  have h0 := b0.toNat_lt
  simp [Form.fits, fitsGo, stepOk, Form.mem, m255] at hfit
  have hv := leNat_lt l
  have hb := leB_leNat l
  rw [hl] at hv hb
  have hI : Form.ins { steps := [(255, 114)], more := 1, op := 20, alu := 0, cc := 2 } (b0 :: l) = ⟨20, 0, 0, 0, 2, 0, sx8 (leNat l : Int)⟩ := by
    simp [Form.ins]
  rw [hI]
  clear hI
  obtain ⟨d, hd, hd0, hd1⟩ : ∃ d, sx8 (leNat l : Int) = d ∧ -128 ≤ d ∧ d ≤ 127 := ⟨_, rfl, by unfold sx8; omega, by unfold sx8; omega⟩
  have hd4 : [ub d] = l := by rw [← hd, ub_sx8]; exact hb
  rw [hd]
  refine ⟨?_, ?_, ?_, ?_⟩
  · (simp [okB, okCond, okRest, regB, shortB, condAll] <;> omega)
  · simp only [encL]
    simp
    (repeat' apply And.intro) <;> first | exact hd4 | exact hb | (apply ub_eq; (try simp only [rexI]); (repeat' split) <;> omega) | (apply UInt8.toNat_inj.1; simp; omega)
  · (simp <;> omega)
  · (simp <;> omega)
theorem fb_9 (bs : List UInt8) (hfit : Form.fits { steps := [(255, 115)], more := 1, op := 20, alu := 0, cc := 3 } bs = true) (hlen : bs.length = 1 + 1) : Back (Form.ins { steps := [(255, 115)], more := 1, op := 20, alu := 0, cc := 3 } bs) bs := by
  obtain ⟨b0, l, rfl, hl⟩ := split1 hlen
  have h0 := b0.toNat_lt
  simp [Form.fits, fitsGo, stepOk, Form.mem, m255] at hfit
  have hv := leNat_lt l
  have hb := leB_leNat l
  rw [hl] at hv hb
  have hI : Form.ins { steps := [(255, 115)], more := 1, op := 20, alu := 0, cc := 3 } (b0 :: l) = ⟨20, 0, 0, 0, 3, 0, sx8 (leNat l : Int)⟩ := by
    simp [Form.ins]
  rw [hI]
  clear hI
  obtain ⟨d, hd, hd0, hd1⟩ : ∃ d, sx8 (leNat l : Int) = d ∧ -128 ≤ d ∧ d ≤ 127 := ⟨_, rfl, by unfold sx8; omega, by unfold sx8; omega⟩
  have hd4 : [ub d] = l := by rw [← hd, ub_sx8]; exact hb
  rw [hd]
  refine ⟨?_, ?_, ?_, ?_⟩
  · (simp [okB, okCond, okRest, regB, shortB, condAll] <;> omega)
  · simp only [encL]
    simp
    (repeat' apply And.intro) <;> first | exact hd4 | exact hb | (apply ub_eq; (try simp only [rexI]); (repeat' split) <;> omega) | (apply UInt8.toNat_inj.1; simp; omega)
  · (simp <;> omega)
  · (simp <;> omega)
theorem fb_10 (bs : List UInt8) (hfit : Form.fits { steps := [(255, 116)], more := 1, op := 20, alu := 0, cc := 4 } bs = true) (hlen : bs.length = 1 + 1) : Back (Form.ins { steps := [(255, 116)], more := 1, op := 20, alu := 0, cc := 4 } bs) bs := by
  obtain ⟨b0, l, rfl, hl⟩ := split1 hlen
  have h0 := b0.toNat_lt
  simp [Form.fits, fitsGo, stepOk, Form.mem, m255] at hfit
  have hv := leNat_lt l
  have hb := leB_leNat l
  rw [hl] at hv hb
  have hI : Form.ins { steps := [(255, 116)], more := 1, op := 20, alu := 0, cc := 4 } (b0 :: l) = ⟨20, 0, 0, 0, 4, 0, sx8 (leNat l : Int)⟩ := by
    simp [Form.ins]
  rw [hI]
  clear hI
  obtain ⟨d, hd, hd0, hd1⟩ : ∃ d, sx8 (leNat l : Int) = d ∧ -128 ≤ d ∧ d ≤ 127 := ⟨_, rfl, by unfold sx8; omega, by unfold sx8; omega⟩
  have hd4 : [ub d] = l := by rw [← hd, ub_sx8]; exact hb
  rw [hd]
  refine ⟨?_, ?_, ?_, ?_⟩
  · (simp [okB, okCond, okRest, regB, shortB, condAll] <;> omega)
  · simp only [encL]
    simp
    (repeat' apply And.intro) <;> first | exact hd4 | exact hb | (apply ub_eq; (try simp only [rexI]); (repeat' split) <;> omega) | (apply UInt8.toNat_inj.1; simp; omega)
  · (simp <;> omega)
  · (simp <;> omega)
theorem fb_11 (bs : List UInt8) (hfit : Form.fits { steps := [(255, 117)], more := 1, op := 20, alu := 0, cc := 5 } bs = true) (hlen : bs.length = 1 + 1) : Back (Form.ins { steps := [(255, 117)], more := 1, op := 20, alu := 0, cc := 5 } bs) bs := by
  obtain ⟨b0, l, rfl, hl⟩ := split1 hlen
  have h0 := b0.toNat_lt
  simp [Form.fits, fitsGo, stepOk, Form.mem, m255] at hfit
  have hv := leNat_lt l
  have hb := leB_leNat l
  rw [hl] at hv hb
  have hI : Form.ins { steps := [(255, 117)], more := 1, op := 20, alu := 0, cc := 5 } (b0 :: l) = ⟨20, 0, 0, 0, 5, 0, sx8 (leNat l : Int)⟩ := by
    simp [Form.ins]
  rw [hI]
  clear hI
  obtain ⟨d, hd, hd0, hd1⟩ : ∃ d, sx8 (leNat l : Int) = d ∧ -128 ≤ d ∧ d ≤ 127 := ⟨_, rfl, by unfold sx8; omega, by unfold sx8; omega⟩
  have hd4 : [ub d] = l := by rw [← hd, ub_sx8]; exact hb
  rw [hd]
  refine ⟨?_, ?_, ?_, ?_⟩
  · (simp [okB, okCond, okRest, regB, shortB, condAll] <;> omega)
  · simp only [encL]
    simp
    (repeat' apply And.intro) <;> first | exact hd4 | exact hb | (apply ub_eq; (try simp only [rexI]); (repeat' split) <;> omega) | (apply UInt8.toNat_inj.1; simp; omega)
  · (simp <;> omega)
  · (simp <;> omega)
theorem fb_12 (bs : List UInt8) (hfit : Form.fits { steps := [(255, 120)], more := 1, op := 20, alu := 0, cc := 8 } bs = true) (hlen : bs.length = 1 + 1) : Back (Form.ins { steps := [(255, 120)], more := 1, op := 20, alu := 0, cc := 8 } bs) bs := by
  obtain ⟨b0, l, rfl, hl⟩ := split1 hlen
  have h0 := b0.toNat_lt
  simp [Form.fits, fitsGo, stepOk, Form.mem, m255] at hfit
  have hv := leNat_lt l
  have hb := leB_leNat l
  rw [hl] at hv hb
  have hI : Form.ins { steps := [(255, 120)], more := 1, op := 20, alu := 0, cc := 8 } (b0 :: l) = ⟨20, 0, 0, 0, 8, 0, sx8 (leNat l : Int)⟩ := by
    simp [Form.ins]
  rw [hI]
  clear hI
  obtain ⟨d, hd, hd0, hd1⟩ : ∃ d, sx8 (leNat l : Int) = d ∧ -128 ≤ d ∧ d ≤ 127 := ⟨_, rfl, by unfold sx8; omega, by unfold sx8; omega⟩
  have hd4 : [ub d] = l := by rw [← hd, ub_sx8]; exact hb
  rw [hd]
  refine ⟨?_, ?_, ?_, ?_⟩
  · (simp [okB, okCond, okRest, regB, shortB, condAll] <;> omega)
  · simp only [encL]
    simp
    (repeat' apply And.intro) <;> first | exact hd4 | exact hb | (apply ub_eq; (try simp only [rexI]); (repeat' split) <;> omega) | (apply UInt8.toNat_inj.1; simp; omega)
  · (simp <;> omega)
  · (simp <;> omega)
theorem fb_13 (bs : List UInt8) (hfit : Form.fits { steps := [(255, 121)], more := 1, op := 20, alu := 0, cc := 9 } bs = true) (hlen : bs.length = 1 + 1) : Back (Form.ins { steps := [(255, 121)], more := 1, op := 20, alu := 0, cc := 9 } bs) bs := by
  obtain ⟨b0, l, rfl, hl⟩ := split1 hlen
  have h0 := b0.toNat_lt
  simp [Form.fits, fitsGo, stepOk, Form.mem, m255] at hfit
  have hv := leNat_lt l
  have hb := leB_leNat l
  rw [hl] at hv hb
  have hI : Form.ins { steps := [(255, 121)], more := 1, op := 20, alu := 0, cc := 9 } (b0 :: l) = ⟨20, 0, 0, 0, 9, 0, sx8 (leNat l : Int)⟩ := by
    simp [Form.ins]
  rw [hI]
  clear hI
  obtain ⟨d, hd, hd0, hd1⟩ : ∃ d, sx8 (leNat l : Int) = d ∧ -128 ≤ d ∧ d ≤ 127 := ⟨_, rfl, by unfold sx8; omega, by unfold sx8; omega⟩
  have hd4 : [ub d] = l := by rw [← hd, ub_sx8]; exact hb
  rw [hd]
  refine ⟨?_, ?_, ?_, ?_⟩
  · (simp [okB, okCond, okRest, regB, shortB, condAll] <;> omega)
  · simp only [encL]
    simp
    (repeat' apply And.intro) <;> first | exact hd4 | exact hb | (apply ub_eq; (try simp only [rexI]); (repeat' split) <;> omega) | (apply UInt8.toNat_inj.1; simp; omega)
  · (simp <;> omega)
  · (simp <;> omega)
theorem fb_14 (bs : List UInt8) (hfit : Form.fits { steps := [(255, 124)], more := 1, op := 20, alu := 0, cc := 12 } bs = true) (hlen : bs.length = 1 + 1) : Back (Form.ins { steps := [(255, 124)], more := 1, op := 20, alu := 0, cc := 12 } bs) bs := by
  obtain ⟨b0, l, rfl, hl⟩ := split1 hlen
  have h0 := b0.toNat_lt
  simp [Form.fits, fitsGo, stepOk, Form.mem, m255] at hfit
  have hv := leNat_lt l
  have hb := leB_leNat l
  rw [hl] at hv hb
  have hI : Form.ins { steps := [(255, 124)], more := 1, op := 20, alu := 0, cc := 12 } (b0 :: l) = ⟨20, 0, 0, 0, 12, 0, sx8 (leNat l : Int)⟩ := by
    simp [Form.ins]
  rw [hI]
  clear hI
  obtain ⟨d, hd, hd0, hd1⟩ : ∃ d, sx8 (leNat l : Int) = d ∧ -128 ≤ d ∧ d ≤ 127 := ⟨_, rfl, by unfold sx8; omega, by unfold sx8; omega⟩
  have hd4 : [ub d] = l := by rw [← hd, ub_sx8]; exact hb
  rw [hd]
  refine ⟨?_, ?_, ?_, ?_⟩
  · (simp [okB, okCond, okRest, regB, shortB, condAll] <;> omega)
  · simp only [encL]
    simp
    (repeat' apply And.intro) <;> first | exact hd4 | exact hb | (apply ub_eq; (try simp only [rexI]); (repeat' split) <;> omega) | (apply UInt8.toNat_inj.1; simp; omega)
  · (simp <;> omega)
  · (simp <;> omega)
theorem fb_15 (bs : List UInt8) (hfit : Form.fits { steps := [(255, 125)], more := 1, op := 20, alu := 0, cc := 13 } bs = true) (hlen : bs.length = 1 + 1) : Back (Form.ins { steps := [(255, 125)], more := 1, op := 20, alu := 0, cc := 13 } bs) bs := by
  obtain ⟨b0, l, rfl, hl⟩ := split1 hlen
  have h0 := b0.toNat_lt
  simp [Form.fits, fitsGo, stepOk, Form.mem, m255] at hfit
  have hv := leNat_lt l
  have hb := leB_leNat l
  rw [hl] at hv hb
  have hI : Form.ins { steps := [(255, 125)], more := 1, op := 20, alu := 0, cc := 13 } (b0 :: l) = ⟨20, 0, 0, 0, 13, 0, sx8 (leNat l : Int)⟩ := by
    simp [Form.ins]
  rw [hI]
  clear hI
  obtain ⟨d, hd, hd0, hd1⟩ : ∃ d, sx8 (leNat l : Int) = d ∧ -128 ≤ d ∧ d ≤ 127 := ⟨_, rfl, by unfold sx8; omega, by unfold sx8; omega⟩
  have hd4 : [ub d] = l := by rw [← hd, ub_sx8]; exact hb
  rw [hd]
  refine ⟨?_, ?_, ?_, ?_⟩
  · (simp [okB, okCond, okRest, regB, shortB, condAll] <;> omega)
  · simp only [encL]
    simp
    (repeat' apply And.intro) <;> first | exact hd4 | exact hb | (apply ub_eq; (try simp only [rexI]); (repeat' split) <;> omega) | (apply UInt8.toNat_inj.1; simp; omega)
  · (simp <;> omega)
  · (simp <;> omega)
theorem fb_16 (bs : List UInt8) (hfit : Form.fits { steps := [(248, 80)], more := 0, op := 3, alu := 0, cc := 0 } bs = true) (hlen : bs.length = 1 + 0) : Back (Form.ins { steps := [(248, 80)], more := 0, op := 3, alu := 0, cc := 0 } bs) bs := by
  obtain ⟨b0, l, rfl, hl⟩ := split1 hlen
  have h0 := b0.toNat_lt
  simp [Form.fits, fitsGo, stepOk, Form.mem, m248] at hfit
  have hv := leNat_lt l
  have hb := leB_leNat l
  rw [hl] at hv hb
  obtain rfl : l = [] := List.eq_nil_of_length_eq_zero hl
  have hI : Form.ins { steps := [(248, 80)], more := 0, op := 3, alu := 0, cc := 0 } (b0 :: []) = ⟨3, (b0.toNat : Int) % 8, 0, 0, 0, 0, 0⟩ := by
    simp [Form.ins, leNat]
  rw [hI]
  clear hI
  refine ⟨?_, ?_, ?_, ?_⟩
  · (simp [okB, okCond, okRest, regB] <;> omega)
  · simp only [encL]
    simp [aheadL]
    rw [if_neg (by omega)]
    simp only [List.nil_append, List.cons_append, List.cons.injEq, and_true]
    (repeat' apply And.intro) <;> first | exact hb | (apply ub_eq; (try simp only [rexI]); (repeat' split) <;> omega) | (apply UInt8.toNat_inj.1; simp; omega)
  · (simp <;> omega)
  · (simp <;> omega)
theorem fb_17 (bs : List UInt8) (hfit : Form.fits { steps := [(255, 65), (248, 80)], more := 0, op := 3, alu := 0, cc := 0 } bs = true) (hlen : bs.length = 2 + 0) : Back (Form.ins { steps := [(255, 65), (248, 80)], more := 0, op := 3, alu := 0, cc := 0 } bs) bs := by
  obtain ⟨b0, b1, l, rfl, hl⟩ := split2 hlen
  have h0 := b0.toNat_lt
  have h1 := b1.toNat_lt
  simp [Form.fits, fitsGo, stepOk, Form.mem, m248, m255] at hfit
  have hv := leNat_lt l
  have hb := leB_leNat l
  rw [hl] at hv hb
  obtain rfl : l = [] := List.eq_nil_of_length_eq_zero hl
  have hI : Form.ins { steps := [(255, 65), (248, 80)], more := 0, op := 3, alu := 0, cc := 0 } (b0 :: b1 :: []) = ⟨3, (b1.toNat : Int) % 8 + 8, 0, 0, 0, 0, 0⟩ := by
    simp [Form.ins, leNat]
  rw [hI]
  clear hI
  refine ⟨?_, ?_, ?_, ?_⟩
  · (simp [okB, okCond, okRest, regB] <;> omega)
  · simp only [encL]
    simp [aheadL]
    rw [if_pos (by omega)]
    simp only [List.nil_append, List.cons_append, List.cons.injEq, and_true]
    (repeat' apply And.intro) <;> first | exact hb | (apply ub_eq; (try simp only [rexI]); (repeat' split) <;> omega) | (apply UInt8.toNat_inj.1; simp; omega)
  · (simp <;> omega)
  · (simp <;> omega)
theorem fb_18 (bs : List UInt8) (hfit : Form.fits { steps := [(248, 88)], more := 0, op := 4, alu := 0, cc := 0 } bs = true) (hlen : bs.length = 1 + 0) : Back (Form.ins { steps := [(248, 88)], more := 0, op := 4, alu := 0, cc := 0 } bs) bs := by
  obtain ⟨b0, l, rfl, hl⟩ := split1 hlen
  have h0 := b0.toNat_lt
  simp [Form.fits, fitsGo, stepOk, Form.mem, m248] at hfit
  have hv := leNat_lt l
  have hb := leB_leNat l
  rw [hl] at hv hb
  obtain rfl : l = [] := List.eq_nil_of_length_eq_zero hl
  have hI : Form.ins { steps := [(248, 88)], more := 0, op := 4, alu := 0, cc := 0 } (b0 :: []) = ⟨4, (b0.toNat : Int) % 8, 0, 0, 0, 0, 0⟩ := by
    simp [Form.ins, leNat]
  rw [hI]
  clear hI
  refine ⟨?_, ?_, ?_, ?_⟩
  · (simp [okB, okCond, okRest, regB] <;> omega)
  · simp only [encL]
    simp [aheadL]
    rw [if_neg (by omega)]
    simp only [List.nil_append, List.cons_append, List.cons.injEq, and_true]
    (repeat' apply And.intro) <;> first | exact hb | (apply ub_eq; (try simp only [rexI]); (repeat' split) <;> omega) | (apply UInt8.toNat_inj.1; simp; omega)
  · (simp <;> omega)
  · (simp <;> omega)
theorem fb_19 (bs : List UInt8) (hfit : Form.fits { steps := [(255, 65), (248, 88)], more := 0, op := 4, alu := 0, cc := 0 } bs = true) (hlen : bs.length = 2 + 0) : Back (Form.ins { steps := [(255, 65), (248, 88)], more := 0, op := 4, alu := 0, cc := 0 } bs) bs := by
  obtain ⟨b0, b1, l, rfl, hl⟩ := split2 hlen
  have h0 := b0.toNat_lt
  have h1 := b1.toNat_lt
  simp [Form.fits, fitsGo, stepOk, Form.mem, m248, m255] at hfit
  have hv := leNat_lt l
  have hb := leB_leNat l
  rw [hl] at hv hb
  obtain rfl : l = [] := List.eq_nil_of_length_eq_zero hl
  have hI : Form.ins { steps := [(255, 65), (248, 88)], more := 0, op := 4, alu := 0, cc := 0 } (b0 :: b1 :: []) = ⟨4, (b1.toNat : Int) % 8 + 8, 0, 0, 0, 0, 0⟩ := by
    simp [Form.ins, leNat]
  rw [hI]
  clear hI
  refine ⟨?_, ?_, ?_, ?_⟩
  · (simp [okB, okCond, okRest, regB] <;> omega)
  · simp only [encL]
    simp [aheadL]
    rw [if_pos (by omega)]
    simp only [List.nil_append, List.cons_append, List.cons.injEq, and_true]
    (repeat' apply And.intro) <;> first | exact hb | (apply ub_eq; (try simp only [rexI]); (repeat' split) <;> omega) | (apply UInt8.toNat_inj.1; simp; omega)
  · (simp <;> omega)
  · (simp <;> omega)
theorem fb_20 (bs : List UInt8) (hfit : Form.fits { steps := [(248, 184)], more := 4, op := 6, alu := 0, cc := 0 } bs = true) (hlen : bs.length = 1 + 4) : Back (Form.ins { steps := [(248, 184)], more := 4, op := 6, alu := 0, cc := 0 } bs) bs := by
  obtain ⟨b0, l, rfl, hl⟩ := split1 hlen
  have h0 := b0.toNat_lt
  simp [Form.fits, fitsGo, stepOk, Form.mem, m248] at hfit
  have hv := leNat_lt l
  have hb := leB_leNat l
  rw [hl] at hv hb
  have hI : Form.ins { steps := [(248, 184)], more := 4, op := 6, alu := 0, cc := 0 } (b0 :: l) = ⟨6, (b0.toNat : Int) % 8, 0, 0, 0, (leNat l : Int), 0⟩ := by
    simp [Form.ins]
  rw [hI]
  clear hI
  refine ⟨?_, ?_, ?_, ?_⟩
  · (simp [okB, okCond, okRest, regB] <;> omega)
  · simp only [encL]
    simp [aheadL]
    rw [if_neg (by omega)]
    simp only [List.nil_append, List.cons_append, List.cons.injEq, and_true]
    (repeat' apply And.intro) <;> first | exact hb | (apply ub_eq; (try simp only [rexI]); (repeat' split) <;> omega) | (apply UInt8.toNat_inj.1; simp; omega)
  · (simp <;> omega)
  · (simp <;> omega)
theorem fb_21 (bs : List UInt8) (hfit : Form.fits { steps := [(255, 65), (248, 184)], more := 4, op := 6, alu := 0, cc := 0 } bs = true) (hlen : bs.length = 2 + 4) : Back (Form.ins { steps := [(255, 65), (248, 184)], more := 4, op := 6, alu := 0, cc := 0 } bs) bs := by
  obtain ⟨b0, b1, l, rfl, hl⟩ := split2 hlen
  have h0 := b0.toNat_lt
  have h1 := b1.toNat_lt
  simp [Form.fits, fitsGo, stepOk, Form.mem, m248, m255] at hfit
  have hv := leNat_lt l
  have hb := leB_leNat l
  rw [hl] at hv hb
  have hI : Form.ins { steps := [(255, 65), (248, 184)], more := 4, op := 6, alu := 0, cc := 0 } (b0 :: b1 :: l) = ⟨6, (b1.toNat : Int) % 8 + 8, 0, 0, 0, (leNat l : Int), 0⟩ := by
    simp [Form.ins]
  rw [hI]
  clear hI
  refine ⟨?_, ?_, ?_, ?_⟩
  · (simp [okB, okCond, okRest, regB] <;> omega)
  · simp only [encL]
    simp [aheadL]
    rw [if_pos (by omega)]
    simp only [List.nil_append, List.cons_append, List.cons.injEq, and_true]
    (repeat' apply And.intro) <;> first | exact hb | (apply ub_eq; (try simp only [rexI]); (repeat' split) <;> omega) | (apply UInt8.toNat_inj.1; simp; omega)
  · (simp <;> omega)
  · (simp <;> omega)
theorem fb_22 (bs : List UInt8) (hfit : Form.fits { steps := [(254, 72), (248, 184)], more := 8, op := 5, alu := 0, cc := 0 } bs = true) (hlen : bs.length = 2 + 8) : Back (Form.ins { steps := [(254, 72), (248, 184)], more := 8, op := 5, alu := 0, cc := 0 } bs) bs := by
  obtain ⟨b0, b1, l, rfl, hl⟩ := split2 hlen
  have h0 := b0.toNat_lt
  have h1 := b1.toNat_lt
  simp [Form.fits, fitsGo, stepOk, Form.mem, m248, m254] at hfit
  have hv := leNat_lt l
  have hb := leB_leNat l
  rw [hl] at hv hb
  have hI : Form.ins { steps := [(254, 72), (248, 184)], more := 8, op := 5, alu := 0, cc := 0 } (b0 :: b1 :: l) = ⟨5, (b1.toNat : Int) % 8 + 8 * ((b0.toNat : Int) % 2), 0, 0, 0, (leNat l : Int), 0⟩ := by
    simp [Form.ins]
  rw [hI]
  clear hI
  refine ⟨?_, ?_, ?_, ?_⟩
  · (simp [okB, okCond, okRest, regB] <;> omega)
  · simp only [encL]
    simp
    (repeat' apply And.intro) <;> first | exact hb | (apply ub_eq; (try simp only [rexI]); (repeat' split) <;> omega) | (apply UInt8.toNat_inj.1; simp; omega)
  · (simp <;> omega)
  · (simp <;> omega)
theorem fb_23 (bs : List UInt8) (hfit : Form.fits { steps := [(251, 72), (255, 139), (199, 5)], more := 4, op := 11, alu := 0, cc := 0 } bs = true) (hlen : bs.length = 3 + 4) : Back (Form.ins { steps := [(251, 72), (255, 139), (199, 5)], more := 4, op := 11, alu := 0, cc := 0 } bs) bs := by
  obtain ⟨b0, b1, b2, l, rfl, hl⟩ := split3 hlen
  have h0 := b0.toNat_lt
  have h1 := b1.toNat_lt
  have h2 := b2.toNat_lt
  simp [Form.fits, fitsGo, stepOk, Form.mem, m199, m251, m255] at hfit
  have hv := leNat_lt l
  have hb := leB_leNat l
  rw [hl] at hv hb
  have hI : Form.ins { steps := [(251, 72), (255, 139), (199, 5)], more := 4, op := 11, alu := 0, cc := 0 } (b0 :: b1 :: b2 :: l) = ⟨11, (b2.toNat : Int) / 8 % 8 + 8 * ((b0.toNat : Int) / 4 % 2), 0, 0, 0, 0, sx32 (leNat l : Int)⟩ := by
    simp [Form.ins]
  rw [hI]
  clear hI
  obtain ⟨d, hd, hd0, hd1⟩ : ∃ d, sx32 (leNat l : Int) = d ∧ -2147483648 ≤ d ∧ d ≤ 2147483647 := ⟨_, rfl, by unfold sx32; omega, by unfold sx32; omega⟩
  have hd4 : leB d 4 = l := by rw [← hd, leB_sx32]; exact hb
  rw [hd]
  refine ⟨?_, ?_, ?_, ?_⟩
  · (simp [okB, okCond, okRest, regB, wideB] <;> omega)
  · simp only [encL]
    simp
    (repeat' apply And.intro) <;> first | exact hd4 | exact hb | (apply ub_eq; (try simp only [rexI]); (repeat' split) <;> omega) | (apply UInt8.toNat_inj.1; simp; omega)
  · (simp <;> omega)
  · (simp <;> omega)
theorem fb_24 (bs : List UInt8) (hfit : Form.fits { steps := [(251, 72), (255, 137), (199, 5)], more := 4, op := 12, alu := 0, cc := 0 } bs = true) (hlen : bs.length = 3 + 4) : Back (Form.ins { steps := [(251, 72), (255, 137), (199, 5)], more := 4, op := 12, alu := 0, cc := 0 } bs) bs := by
  obtain ⟨b0, b1, b2, l, rfl, hl⟩ := split3 hlen
  have h0 := b0.toNat_lt
  have h1 := b1.toNat_lt
  have h2 := b2.toNat_lt
  simp [Form.fits, fitsGo, stepOk, Form.mem, m199, m251, m255] at hfit
  have hv := leNat_lt l
  have hb := leB_leNat l
  rw [hl] at hv hb
  have hI : Form.ins { steps := [(251, 72), (255, 137), (199, 5)], more := 4, op := 12, alu := 0, cc := 0 } (b0 :: b1 :: b2 :: l) = ⟨12, (b2.toNat : Int) / 8 % 8 + 8 * ((b0.toNat : Int) / 4 % 2), 0, 0, 0, 0, sx32 (leNat l : Int)⟩ := by
    simp [Form.ins]
  rw [hI]
  clear hI
  obtain ⟨d, hd, hd0, hd1⟩ : ∃ d, sx32 (leNat l : Int) = d ∧ -2147483648 ≤ d ∧ d ≤ 2147483647 := ⟨_, rfl, by unfold sx32; omega, by unfold sx32; omega⟩
  have hd4 : leB d 4 = l := by rw [← hd, leB_sx32]; exact hb
  rw [hd]
  refine ⟨?_, ?_, ?_, ?_⟩
  · (simp [okB, okCond, okRest, regB, wideB] <;> omega)
  · simp only [encL]
    simp
    (repeat' apply And.intro) <;> first | exact hd4 | exact hb | (apply ub_eq; (try simp only [rexI]); (repeat' split) <;> omega) | (apply UInt8.toNat_inj.1; simp; omega)
  · (simp <;> omega)
  · (simp <;> omega)
theorem fb_25 (bs : List UInt8) (hfit : Form.fits { steps := [(251, 72), (255, 141), (199, 5)], more := 4, op := 13, alu := 0, cc := 0 } bs = true) (hlen : bs.length = 3 + 4) : Back (Form.ins { steps := [(251, 72), (255, 141), (199, 5)], more := 4, op := 13, alu := 0, cc := 0 } bs) bs := by
  obtain ⟨b0, b1, b2, l, rfl, hl⟩ := split3 hlen
  have h0 := b0.toNat_lt
  have h1 := b1.toNat_lt
  have h2 := b2.toNat_lt
  simp [Form.fits, fitsGo, stepOk, Form.mem, m199, m251, m255] at hfit
  have hv := leNat_lt l
  have hb := leB_leNat l
  rw [hl] at hv hb
  have hI : Form.ins { steps := [(251, 72), (255, 141), (199, 5)], more := 4, op := 13, alu := 0, cc := 0 } (b0 :: b1 :: b2 :: l) = ⟨13, (b2.toNat : Int) / 8 % 8 + 8 * ((b0.toNat : Int) / 4 % 2), 0, 0, 0, 0, sx32 (leNat l : Int)⟩ := by
    simp [Form.ins]
  rw [hI]
  clear hI
  obtain ⟨d, hd, hd0, hd1⟩ : ∃ d, sx32 (leNat l : Int) = d ∧ -2147483648 ≤ d ∧ d ≤ 2147483647 := ⟨_, rfl, by unfold sx32; omega, by unfold sx32; omega⟩
  have hd4 : leB d 4 = l := by rw [← hd, leB_sx32]; exact hb
  rw [hd]
  refine ⟨?_, ?_, ?_, ?_⟩
  · (simp [okB, okCond, okRest, regB, wideB] <;> omega)
  · simp only [encL]
    simp
    (repeat' apply And.intro) <;> first | exact hd4 | exact hb | (apply ub_eq; (try simp only [rexI]); (repeat' split) <;> omega) | (apply UInt8.toNat_inj.1; simp; omega)
  · (simp <;> omega)
  · (simp <;> omega)
theorem fb_26 (bs : List UInt8) (hfit : Form.fits { steps := [(254, 72), (255, 131), (248, 192)], more := 1, op := 14, alu := 0, cc := 0 } bs = true) (hlen : bs.length = 3 + 1) : Back (Form.ins { steps := [(254, 72), (255, 131), (248, 192)], more := 1, op := 14, alu := 0, cc := 0 } bs) bs := by
  obtain ⟨b0, b1, b2, l, rfl, hl⟩ := split3 hlen
  have h0 := b0.toNat_lt
  have h1 := b1.toNat_lt
  have h2 := b2.toNat_lt
  simp [Form.fits, fitsGo, stepOk, Form.mem, m248, m254, m255] at hfit
  have hv := leNat_lt l
  have hb := leB_leNat l
  rw [hl] at hv hb
  have hI : Form.ins { steps := [(254, 72), (255, 131), (248, 192)], more := 1, op := 14, alu := 0, cc := 0 } (b0 :: b1 :: b2 :: l) = ⟨14, 0, (b2.toNat : Int) % 8 + 8 * ((b0.toNat : Int) % 2), 0, 0, sx8 (leNat l : Int) % 18446744073709551616, 0⟩ := by
    simp [Form.ins]
  rw [hI]
  clear hI
  obtain ⟨d, hd, hd0, hd1⟩ : ∃ d, sx8 (leNat l : Int) = d ∧ -128 ≤ d ∧ d ≤ 127 := ⟨_, rfl, by unfold sx8; omega, by unfold sx8; omega⟩
  have hd4 : [ub (d % 18446744073709551616)] = l := by rw [← hd, ub_sx8m]; exact hb
  have hw : wrap64 (d % 18446744073709551616) = d := by unfold wrap64; omega
  rw [hd]
  refine ⟨?_, ?_, ?_, ?_⟩
  · (simp [okB, okCond, okRest, regB, shortB, groupOps, hw] <;> omega)
  · simp only [encL]
    simp [codeOf]
    (repeat' apply And.intro) <;> first | exact hd4 | exact hb | (apply ub_eq; (try simp only [rexI]); (repeat' split) <;> omega) | (apply UInt8.toNat_inj.1; simp; omega)
  · (simp <;> omega)
  · (simp <;> omega)
theorem fb_27 (bs : List UInt8) (hfit : Form.fits { steps := [(254, 72), (255, 131), (248, 232)], more := 1, op := 14, alu := 1, cc := 0 } bs = true) (hlen : bs.length = 3 + 1) : Back (Form.ins { steps := [(254, 72), (255, 131), (248, 232)], more := 1, op := 14, alu := 1, cc := 0 } bs) bs := by
  obtain ⟨b0, b1, b2, l, rfl, hl⟩ := split3 hlen
  have h0 := b0.toNat_lt
  have h1 := b1.toNat_lt
  have h2 := b2.toNat_lt
  simp [Form.fits, fitsGo, stepOk, Form.mem, m248, m254, m255] at hfit
  have hv := leNat_lt l
  have hb := leB_leNat l
  rw [hl] at hv hb
  have hI : Form.ins { steps := [(254, 72), (255, 131), (248, 232)], more := 1, op := 14, alu := 1, cc := 0 } (b0 :: b1 :: b2 :: l) = ⟨14, 0, (b2.toNat : Int) % 8 + 8 * ((b0.toNat : Int) % 2), 1, 0, sx8 (leNat l : Int) % 18446744073709551616, 0⟩ := by
    simp [Form.ins]
  rw [hI]
  clear hI
  obtain ⟨d, hd, hd0, hd1⟩ : ∃ d, sx8 (leNat l : Int) = d ∧ -128 ≤ d ∧ d ≤ 127 := ⟨_, rfl, by unfold sx8; omega, by unfold sx8; omega⟩
  have hd4 : [ub (d % 18446744073709551616)] = l := by rw [← hd, ub_sx8m]; exact hb
  have hw : wrap64 (d % 18446744073709551616) = d := by unfold wrap64; omega
  rw [hd]
  refine ⟨?_, ?_, ?_, ?_⟩
  · (simp [okB, okCond, okRest, regB, shortB, groupOps, hw] <;> omega)
  · simp only [encL]
    simp [codeOf]
    (repeat' apply And.intro) <;> first | exact hd4 | exact hb | (apply ub_eq; (try simp only [rexI]); (repeat' split) <;> omega) | (apply UInt8.toNat_inj.1; simp; omega)
  · (simp <;> omega)
  · (simp <;> omega)
theorem fb_28 (bs : List UInt8) (hfit : Form.fits { steps := [(254, 72), (255, 131), (248, 248)], more := 1, op := 14, alu := 7, cc := 0 } bs = true) (hlen : bs.length = 3 + 1) : Back (Form.ins { steps := [(254, 72), (255, 131), (248, 248)], more := 1, op := 14, alu := 7, cc := 0 } bs) bs := by
  obtain ⟨b0, b1, b2, l, rfl, hl⟩ := split3 hlen
  have h0 := b0.toNat_lt
  have h1 := b1.toNat_lt
  have h2 := b2.toNat_lt
  simp [Form.fits, fitsGo, stepOk, Form.mem, m248, m254, m255] at hfit
  have hv := leNat_lt l
  have hb := leB_leNat l
  rw [hl] at hv hb
  have hI : Form.ins { steps := [(254, 72), (255, 131), (248, 248)], more := 1, op := 14, alu := 7, cc := 0 } (b0 :: b1 :: b2 :: l) = ⟨14, 0, (b2.toNat : Int) % 8 + 8 * ((b0.toNat : Int) % 2), 7, 0, sx8 (leNat l : Int) % 18446744073709551616, 0⟩ := by
    simp [Form.ins]
  rw [hI]
  clear hI
  obtain ⟨d, hd, hd0, hd1⟩ : ∃ d, sx8 (leNat l : Int) = d ∧ -128 ≤ d ∧ d ≤ 127 := ⟨_, rfl, by unfold sx8; omega, by unfold sx8; omega⟩
  have hd4 : [ub (d % 18446744073709551616)] = l := by rw [← hd, ub_sx8m]; exact hb
  have hw : wrap64 (d % 18446744073709551616) = d := by unfold wrap64; omega
  rw [hd]
  refine ⟨?_, ?_, ?_, ?_⟩
  · (simp [okB, okCond, okRest, regB, shortB, groupOps, hw] <;> omega)
  · simp only [encL]
    simp [codeOf]
    (repeat' apply And.intro) <;> first | exact hd4 | exact hb | (apply ub_eq; (try simp only [rexI]); (repeat' split) <;> omega) | (apply UInt8.toNat_inj.1; simp; omega)
  · (simp <;> omega)
  · (simp <;> omega)
theorem fb_29 (bs : List UInt8) (hfit : Form.fits { steps := [(254, 72), (255, 255), (248, 192)], more := 0, op := 15, alu := 5, cc := 0 } bs = true) (hlen : bs.length = 3 + 0) : Back (Form.ins { steps := [(254, 72), (255, 255), (248, 192)], more := 0, op := 15, alu := 5, cc := 0 } bs) bs := by
  obtain ⟨b0, b1, b2, l, rfl, hl⟩ := split3 hlen
  have h0 := b0.toNat_lt
  have h1 := b1.toNat_lt
  have h2 := b2.toNat_lt
  simp [Form.fits, fitsGo, stepOk, Form.mem, m248, m254, m255] at hfit
  have hv := leNat_lt l
  have hb := leB_leNat l
  rw [hl] at hv hb
  obtain rfl : l = [] := List.eq_nil_of_length_eq_zero hl
  have hI : Form.ins { steps := [(254, 72), (255, 255), (248, 192)], more := 0, op := 15, alu := 5, cc := 0 } (b0 :: b1 :: b2 :: []) = ⟨15, 0, (b2.toNat : Int) % 8 + 8 * ((b0.toNat : Int) % 2), 5, 0, 0, 0⟩ := by
    simp [Form.ins, leNat]
  rw [hI]
  clear hI
  refine ⟨?_, ?_, ?_, ?_⟩
  · (simp [okB, okCond, okRest, regB, groupOps] <;> omega)
  · simp only [encL]
    simp [codeOf]
    (repeat' apply And.intro) <;> first | exact hb | (apply ub_eq; (try simp only [rexI]); (repeat' split) <;> omega) | (apply UInt8.toNat_inj.1; simp; omega)
  · (simp <;> omega)
  · (simp <;> omega)
theorem fb_30 (bs : List UInt8) (hfit : Form.fits { steps := [(254, 72), (255, 255), (248, 200)], more := 0, op := 15, alu := 6, cc := 0 } bs = true) (hlen : bs.length = 3 + 0) : Back (Form.ins { steps := [(254, 72), (255, 255), (248, 200)], more := 0, op := 15, alu := 6, cc := 0 } bs) bs := by
  obtain ⟨b0, b1, b2, l, rfl, hl⟩ := split3 hlen
  have h0 := b0.toNat_lt
  have h1 := b1.toNat_lt
  have h2 := b2.toNat_lt
  simp [Form.fits, fitsGo, stepOk, Form.mem, m248, m254, m255] at hfit
  have hv := leNat_lt l
  have hb := leB_leNat l
  rw [hl] at hv hb
  obtain rfl : l = [] := List.eq_nil_of_length_eq_zero hl
  have hI : Form.ins { steps := [(254, 72), (255, 255), (248, 200)], more := 0, op := 15, alu := 6, cc := 0 } (b0 :: b1 :: b2 :: []) = ⟨15, 0, (b2.toNat : Int) % 8 + 8 * ((b0.toNat : Int) % 2), 6, 0, 0, 0⟩ := by
    simp [Form.ins, leNat]
  rw [hI]
  clear hI
  refine ⟨?_, ?_, ?_, ?_⟩
  · (simp [okB, okCond, okRest, regB, groupOps] <;> omega)
  · simp only [encL]
    simp [codeOf]
    (repeat' apply And.intro) <;> first | exact hb | (apply ub_eq; (try simp only [rexI]); (repeat' split) <;> omega) | (apply UInt8.toNat_inj.1; simp; omega)
  · (simp <;> omega)
  · (simp <;> omega)
theorem fb_31 (bs : List UInt8) (hfit : Form.fits { steps := [(254, 72), (255, 193), (248, 224)], more := 1, op := 16, alu := 9, cc := 0 } bs = true) (hlen : bs.length = 3 + 1) : Back (Form.ins { steps := [(254, 72), (255, 193), (248, 224)], more := 1, op := 16, alu := 9, cc := 0 } bs) bs := by
  obtain ⟨b0, b1, b2, l, rfl, hl⟩ := split3 hlen
  have h0 := b0.toNat_lt
  have h1 := b1.toNat_lt
  have h2 := b2.toNat_lt
  simp [Form.fits, fitsGo, stepOk, Form.mem, m248, m254, m255] at hfit
  have hv := leNat_lt l
  have hb := leB_leNat l
  rw [hl] at hv hb
  have hI : Form.ins { steps := [(254, 72), (255, 193), (248, 224)], more := 1, op := 16, alu := 9, cc := 0 } (b0 :: b1 :: b2 :: l) = ⟨16, 0, (b2.toNat : Int) % 8 + 8 * ((b0.toNat : Int) % 2), 9, 0, (leNat l : Int), 0⟩ := by
    simp [Form.ins]
  rw [hI]
  clear hI
  have hd4 : [ub (leNat l : Int)] = l := hb
  refine ⟨?_, ?_, ?_, ?_⟩
  · (simp [okB, okCond, okRest, regB, groupOps] <;> omega)
  · simp only [encL]
    simp [codeOf]
    (repeat' apply And.intro) <;> first | exact hd4 | exact hb | (apply ub_eq; (try simp only [rexI]); (repeat' split) <;> omega) | (apply UInt8.toNat_inj.1; simp; omega)
  · (simp <;> omega)
  · (simp <;> omega)
theorem fb_32 (bs : List UInt8) (hfit : Form.fits { steps := [(254, 72), (255, 193), (248, 232)], more := 1, op := 16, alu := 10, cc := 0 } bs = true) (hlen : bs.length = 3 + 1) : Back (Form.ins { steps := [(254, 72), (255, 193), (248, 232)], more := 1, op := 16, alu := 10, cc := 0 } bs) bs := by
  obtain ⟨b0, b1, b2, l, rfl, hl⟩ := split3 hlen
  have h0 := b0.toNat_lt
  have h1 := b1.toNat_lt
  have h2 := b2.toNat_lt
  simp [Form.fits, fitsGo, stepOk, Form.mem, m248, m254, m255] at hfit
  have hv := leNat_lt l
  have hb := leB_leNat l
  rw [hl] at hv hb
  have hI : Form.ins { steps := [(254, 72), (255, 193), (248, 232)], more := 1, op := 16, alu := 10, cc := 0 } (b0 :: b1 :: b2 :: l) = ⟨16, 0, (b2.toNat : Int) % 8 + 8 * ((b0.toNat : Int) % 2), 10, 0, (leNat l : Int), 0⟩ := by
    simp [Form.ins]
  rw [hI]
  clear hI
  have hd4 : [ub (leNat l : Int)] = l := hb
  refine ⟨?_, ?_, ?_, ?_⟩
  · (simp [okB, okCond, okRest, regB, groupOps] <;> omega)
  · simp only [encL]
    simp [codeOf]
    (repeat' apply And.intro) <;> first | exact hd4 | exact hb | (apply ub_eq; (try simp only [rexI]); (repeat' split) <;> omega) | (apply UInt8.toNat_inj.1; simp; omega)
  · (simp <;> omega)
  · (simp <;> omega)
theorem fb_33 (bs : List UInt8) (hfit : Form.fits { steps := [(250, 72), (255, 1), (192, 192)], more := 0, op := 7, alu := 0, cc := 0 } bs = true) (hlen : bs.length = 3 + 0) : Back (Form.ins { steps := [(250, 72), (255, 1), (192, 192)], more := 0, op := 7, alu := 0, cc := 0 } bs) bs := by
  obtain ⟨b0, b1, b2, l, rfl, hl⟩ := split3 hlen
  have h0 := b0.toNat_lt
  have h1 := b1.toNat_lt
  have h2 := b2.toNat_lt
  simp [Form.fits, fitsGo, stepOk, Form.mem, m192, m250, m255] at hfit
  have hv := leNat_lt l
  have hb := leB_leNat l
  rw [hl] at hv hb
  obtain rfl : l = [] := List.eq_nil_of_length_eq_zero hl
  have hI : Form.ins { steps := [(250, 72), (255, 1), (192, 192)], more := 0, op := 7, alu := 0, cc := 0 } (b0 :: b1 :: b2 :: []) = ⟨7, (b2.toNat : Int) / 8 % 8 + 8 * ((b0.toNat : Int) / 4 % 2), (b2.toNat : Int) % 8 + 8 * ((b0.toNat : Int) % 2), 0, 0, 0, 0⟩ := by
    simp [Form.ins, leNat]
  rw [hI]
  clear hI
  refine ⟨?_, ?_, ?_, ?_⟩
  · (simp [okB, okCond, okRest, regB, aluAll] <;> omega)
  · simp only [encL]
    simp [codeOf]
    (repeat' apply And.intro) <;> first | exact hb | (apply ub_eq; (try simp only [rexI]); (repeat' split) <;> omega) | (apply UInt8.toNat_inj.1; simp; omega)
  · (simp <;> omega)
  · (simp <;> omega)
theorem fb_34 (bs : List UInt8) (hfit : Form.fits { steps := [(250, 72), (255, 41), (192, 192)], more := 0, op := 7, alu := 1, cc := 0 } bs = true) (hlen : bs.length = 3 + 0) : Back (Form.ins { steps := [(250, 72), (255, 41), (192, 192)], more := 0, op := 7, alu := 1, cc := 0 } bs) bs := by
  obtain ⟨b0, b1, b2, l, rfl, hl⟩ := split3 hlen
  have h0 := b0.toNat_lt
  have h1 := b1.toNat_lt
  have h2 := b2.toNat_lt
  simp [Form.fits, fitsGo, stepOk, Form.mem, m192, m250, m255] at hfit
  have hv := leNat_lt l
  have hb := leB_leNat l
  rw [hl] at hv hb
  obtain rfl : l = [] := List.eq_nil_of_length_eq_zero hl
  have hI : Form.ins { steps := [(250, 72), (255, 41), (192, 192)], more := 0, op := 7, alu := 1, cc := 0 } (b0 :: b1 :: b2 :: []) = ⟨7, (b2.toNat : Int) / 8 % 8 + 8 * ((b0.toNat : Int) / 4 % 2), (b2.toNat : Int) % 8 + 8 * ((b0.toNat : Int) % 2), 1, 0, 0, 0⟩ := by
    simp [Form.ins, leNat]
  rw [hI]
  clear hI
  refine ⟨?_, ?_, ?_, ?_⟩
  · (simp [okB, okCond, okRest, regB, aluAll] <;> omega)
  · simp only [encL]
    simp [codeOf]
    (repeat' apply And.intro) <;> first | exact hb | (apply ub_eq; (try simp only [rexI]); (repeat' split) <;> omega) | (apply UInt8.toNat_inj.1; simp; omega)
  · (simp <;> omega)
  · (simp <;> omega)
theorem fb_35 (bs : List UInt8) (hfit : Form.fits { steps := [(250, 72), (255, 33), (192, 192)], more := 0, op := 7, alu := 2, cc := 0 } bs = true) (hlen : bs.length = 3 + 0) : Back (Form.ins { steps := [(250, 72), (255, 33), (192, 192)], more := 0, op := 7, alu := 2, cc := 0 } bs) bs := by
  obtain ⟨b0, b1, b2, l, rfl, hl⟩ := split3 hlen
  have h0 := b0.toNat_lt
  have h1 := b1.toNat_lt
  have h2 := b2.toNat_lt
  simp [Form.fits, fitsGo, stepOk, Form.mem, m192, m250, m255] at hfit
  have hv := leNat_lt l
  have hb := leB_leNat l
  rw [hl] at hv hb
  obtain rfl : l = [] := List.eq_nil_of_length_eq_zero hl
  have hI : Form.ins { steps := [(250, 72), (255, 33), (192, 192)], more := 0, op := 7, alu := 2, cc := 0 } (b0 :: b1 :: b2 :: []) = ⟨7, (b2.toNat : Int) / 8 % 8 + 8 * ((b0.toNat : Int) / 4 % 2), (b2.toNat : Int) % 8 + 8 * ((b0.toNat : Int) % 2), 2, 0, 0, 0⟩ := by
    simp [Form.ins, leNat]
  rw [hI]
  clear hI
  refine ⟨?_, ?_, ?_, ?_⟩
  · (simp [okB, okCond, okRest, regB, aluAll] <;> omega)
  · simp only [encL]
    simp [codeOf]
    (repeat' apply And.intro) <;> first | exact hb | (apply ub_eq; (try simp only [rexI]); (repeat' split) <;> omega) | (apply UInt8.toNat_inj.1; simp; omega)
  · (simp <;> omega)
  · (simp <;> omega)
theorem fb_36 (bs : List UInt8) (hfit : Form.fits { steps := [(250, 72), (255, 9), (192, 192)], more := 0, op := 7, alu := 3, cc := 0 } bs = true) (hlen : bs.length = 3 + 0) : Back (Form.ins { steps := [(250, 72), (255, 9), (192, 192)], more := 0, op := 7, alu := 3, cc := 0 } bs) bs := by
  obtain ⟨b0, b1, b2, l, rfl, hl⟩ := split3 hlen
  have h0 := b0.toNat_lt
  have h1 := b1.toNat_lt
  have h2 := b2.toNat_lt
  simp [Form.fits, fitsGo, stepOk, Form.mem, m192, m250, m255] at hfit
  have hv := leNat_lt l
  have hb := leB_leNat l
  rw [hl] at hv hb
  obtain rfl : l = [] := List.eq_nil_of_length_eq_zero hl
  have hI : Form.ins { steps := [(250, 72), (255, 9), (192, 192)], more := 0, op := 7, alu := 3, cc := 0 } (b0 :: b1 :: b2 :: []) = ⟨7, (b2.toNat : Int) / 8 % 8 + 8 * ((b0.toNat : Int) / 4 % 2), (b2.toNat : Int) % 8 + 8 * ((b0.toNat : Int) % 2), 3, 0, 0, 0⟩ := by
    simp [Form.ins, leNat]
  rw [hI]
  clear hI
  refine ⟨?_, ?_, ?_, ?_⟩
  · (simp [okB, okCond, okRest, regB, aluAll] <;> omega)
  · simp only [encL]
    simp [codeOf]
    (repeat' apply And.intro) <;> first | exact hb | (apply ub_eq; (try simp only [rexI]); (repeat' split) <;> omega) | (apply UInt8.toNat_inj.1; simp; omega)
  · (simp <;> omega)
  · (simp <;> omega)
theorem fb_37 (bs : List UInt8) (hfit : Form.fits { steps := [(250, 72), (255, 49), (192, 192)], more := 0, op := 7, alu := 4, cc := 0 } bs = true) (hlen : bs.length = 3 + 0) : Back (Form.ins { steps := [(250, 72), (255, 49), (192, 192)], more := 0, op := 7, alu := 4, cc := 0 } bs) bs := by
  obtain ⟨b0, b1, b2, l, rfl, hl⟩ := split3 hlen
  have h0 := b0.toNat_lt
  have h1 := b1.toNat_lt
  have h2 := b2.toNat_lt
  simp [Form.fits, fitsGo, stepOk, Form.mem, m192, m250, m255] at hfit
  have hv := leNat_lt l
  have hb := leB_leNat l
  rw [hl] at hv hb
  obtain rfl : l = [] := List.eq_nil_of_length_eq_zero hl
  have hI : Form.ins { steps := [(250, 72), (255, 49), (192, 192)], more := 0, op := 7, alu := 4, cc := 0 } (b0 :: b1 :: b2 :: []) = ⟨7, (b2.toNat : Int) / 8 % 8 + 8 * ((b0.toNat : Int) / 4 % 2), (b2.toNat : Int) % 8 + 8 * ((b0.toNat : Int) % 2), 4, 0, 0, 0⟩ := by
    simp [Form.ins, leNat]
  rw [hI]
  clear hI
  refine ⟨?_, ?_, ?_, ?_⟩
  · (simp [okB, okCond, okRest, regB, aluAll] <;> omega)
  · simp only [encL]
    simp [codeOf]
    (repeat' apply And.intro) <;> first | exact hb | (apply ub_eq; (try simp only [rexI]); (repeat' split) <;> omega) | (apply UInt8.toNat_inj.1; simp; omega)
  · (simp <;> omega)
  · (simp <;> omega)
theorem fb_38 (bs : List UInt8) (hfit : Form.fits { steps := [(250, 72), (255, 57), (192, 192)], more := 0, op := 7, alu := 7, cc := 0 } bs = true) (hlen : bs.length = 3 + 0) : Back (Form.ins { steps := [(250, 72), (255, 57), (192, 192)], more := 0, op := 7, alu := 7, cc := 0 } bs) bs := by
  obtain ⟨b0, b1, b2, l, rfl, hl⟩ := split3 hlen
  have h0 := b0.toNat_lt
  have h1 := b1.toNat_lt
  have h2 := b2.toNat_lt
  simp [Form.fits, fitsGo, stepOk, Form.mem, m192, m250, m255] at hfit
  have hv := leNat_lt l
  have hb := leB_leNat l
  rw [hl] at hv hb
  obtain rfl : l = [] := List.eq_nil_of_length_eq_zero hl
  have hI : Form.ins { steps := [(250, 72), (255, 57), (192, 192)], more := 0, op := 7, alu := 7, cc := 0 } (b0 :: b1 :: b2 :: []) = ⟨7, (b2.toNat : Int) / 8 % 8 + 8 * ((b0.toNat : Int) / 4 % 2), (b2.toNat : Int) % 8 + 8 * ((b0.toNat : Int) % 2), 7, 0, 0, 0⟩ := by
    simp [Form.ins, leNat]
  rw [hI]
  clear hI
  refine ⟨?_, ?_, ?_, ?_⟩
  · (simp [okB, okCond, okRest, regB, aluAll] <;> omega)
  · simp only [encL]
    simp [codeOf]
    (repeat' apply And.intro) <;> first | exact hb | (apply ub_eq; (try simp only [rexI]); (repeat' split) <;> omega) | (apply UInt8.toNat_inj.1; simp; omega)
  · (simp <;> omega)
  · (simp <;> omega)
theorem fb_39 (bs : List UInt8) (hfit : Form.fits { steps := [(250, 72), (255, 133), (192, 192)], more := 0, op := 7, alu := 8, cc := 0 } bs = true) (hlen : bs.length = 3 + 0) : Back (Form.ins { steps := [(250, 72), (255, 133), (192, 192)], more := 0, op := 7, alu := 8, cc := 0 } bs) bs := by
  obtain ⟨b0, b1, b2, l, rfl, hl⟩ := split3 hlen
  have h0 := b0.toNat_lt
  have h1 := b1.toNat_lt
  have h2 := b2.toNat_lt
  simp [Form.fits, fitsGo, stepOk, Form.mem, m192, m250, m255] at hfit
  have hv := leNat_lt l
  have hb := leB_leNat l
  rw [hl] at hv hb
  obtain rfl : l = [] := List.eq_nil_of_length_eq_zero hl
  have hI : Form.ins { steps := [(250, 72), (255, 133), (192, 192)], more := 0, op := 7, alu := 8, cc := 0 } (b0 :: b1 :: b2 :: []) = ⟨7, (b2.toNat : Int) / 8 % 8 + 8 * ((b0.toNat : Int) / 4 % 2), (b2.toNat : Int) % 8 + 8 * ((b0.toNat : Int) % 2), 8, 0, 0, 0⟩ := by
    simp [Form.ins, leNat]
  rw [hI]
  clear hI
  refine ⟨?_, ?_, ?_, ?_⟩
  · (simp [okB, okCond, okRest, regB, aluAll] <;> omega)
  · simp only [encL]
    simp [codeOf]
    (repeat' apply And.intro) <;> first | exact hb | (apply ub_eq; (try simp only [rexI]); (repeat' split) <;> omega) | (apply UInt8.toNat_inj.1; simp; omega)
  · (simp <;> omega)
  · (simp <;> omega)
theorem fb_40 (bs : List UInt8) (hfit : Form.fits { steps := [(250, 72), (255, 137), (192, 192)], more := 0, op := 8, alu := 0, cc := 0 } bs = true) (hlen : bs.length = 3 + 0) : Back (Form.ins { steps := [(250, 72), (255, 137), (192, 192)], more := 0, op := 8, alu := 0, cc := 0 } bs) bs := by
  obtain ⟨b0, b1, b2, l, rfl, hl⟩ := split3 hlen
  have h0 := b0.toNat_lt
  have h1 := b1.toNat_lt
  have h2 := b2.toNat_lt
  simp [Form.fits, fitsGo, stepOk, Form.mem, m192, m250, m255] at hfit
  have hv := leNat_lt l
  have hb := leB_leNat l
  rw [hl] at hv hb
  obtain rfl : l = [] := List.eq_nil_of_length_eq_zero hl
  have hI : Form.ins { steps := [(250, 72), (255, 137), (192, 192)], more := 0, op := 8, alu := 0, cc := 0 } (b0 :: b1 :: b2 :: []) = ⟨8, (b2.toNat : Int) / 8 % 8 + 8 * ((b0.toNat : Int) / 4 % 2), (b2.toNat : Int) % 8 + 8 * ((b0.toNat : Int) % 2), 0, 0, 0, 0⟩ := by
    simp [Form.ins, leNat]
  rw [hI]
  clear hI
  refine ⟨?_, ?_, ?_, ?_⟩
  · (simp [okB, okCond, okRest, regB] <;> omega)
  · simp only [encL]
    simp
    (repeat' apply And.intro) <;> first | exact hb | (apply ub_eq; (try simp only [rexI]); (repeat' split) <;> omega) | (apply UInt8.toNat_inj.1; simp; omega)
  · (simp <;> omega)
  · (simp <;> omega)
theorem fb_41 (bs : List UInt8) (hfit : Form.fits { steps := [(250, 72), (255, 139), (192, 128)], more := 4, op := 9, alu := 0, cc := 0 } bs = true) (hlen : bs.length = 3 + 4) : Back (Form.ins { steps := [(250, 72), (255, 139), (192, 128)], more := 4, op := 9, alu := 0, cc := 0 } bs) bs := by
  obtain ⟨b0, b1, b2, l, rfl, hl⟩ := split3 hlen
  have h0 := b0.toNat_lt
  have h1 := b1.toNat_lt
  have h2 := b2.toNat_lt
  simp [Form.fits, fitsGo, stepOk, Form.mem, m192, m250, m255, m7] at hfit
  have hv := leNat_lt l
  have hb := leB_leNat l
  rw [hl] at hv hb
  have hI : Form.ins { steps := [(250, 72), (255, 139), (192, 128)], more := 4, op := 9, alu := 0, cc := 0 } (b0 :: b1 :: b2 :: l) = ⟨9, (b2.toNat : Int) / 8 % 8 + 8 * ((b0.toNat : Int) / 4 % 2), (b2.toNat : Int) % 8 + 8 * ((b0.toNat : Int) % 2), 0, 0, 0, sx32 (leNat l : Int)⟩ := by
    simp [Form.ins]
  rw [hI]
  clear hI
  obtain ⟨d, hd, hd0, hd1⟩ : ∃ d, sx32 (leNat l : Int) = d ∧ -2147483648 ≤ d ∧ d ≤ 2147483647 := ⟨_, rfl, by unfold sx32; omega, by unfold sx32; omega⟩
  have hd4 : leB d 4 = l := by rw [← hd, leB_sx32]; exact hb
  rw [hd]
  have ha := and7 ((b2.toNat : Int) % 8 + 8 * ((b0.toNat : Int) % 2)) (by omega) (by omega)
  refine ⟨?_, ?_, ?_, ?_⟩
  · (simp [okB, okCond, okRest, regB, wideB, ha] <;> omega)
  · simp only [encL]
    simp
    (repeat' apply And.intro) <;> first | exact hd4 | exact hb | (apply ub_eq; (try simp only [rexI]); (repeat' split) <;> omega) | (apply UInt8.toNat_inj.1; simp; omega)
  · (simp <;> omega)
  · (simp <;> omega)
theorem fb_42 (bs : List UInt8) (hfit : Form.fits { steps := [(250, 72), (255, 137), (192, 128)], more := 4, op := 10, alu := 0, cc := 0 } bs = true) (hlen : bs.length = 3 + 4) : Back (Form.ins { steps := [(250, 72), (255, 137), (192, 128)], more := 4, op := 10, alu := 0, cc := 0 } bs) bs := by
  obtain ⟨b0, b1, b2, l, rfl, hl⟩ := split3 hlen
  have h0 := b0.toNat_lt
  have h1 := b1.toNat_lt
  have h2 := b2.toNat_lt
  simp [Form.fits, fitsGo, stepOk, Form.mem, m192, m250, m255, m7] at hfit
  have hv := leNat_lt l
  have hb := leB_leNat l
  rw [hl] at hv hb
  have hI : Form.ins { steps := [(250, 72), (255, 137), (192, 128)], more := 4, op := 10, alu := 0, cc := 0 } (b0 :: b1 :: b2 :: l) = ⟨10, (b2.toNat : Int) / 8 % 8 + 8 * ((b0.toNat : Int) / 4 % 2), (b2.toNat : Int) % 8 + 8 * ((b0.toNat : Int) % 2), 0, 0, 0, sx32 (leNat l : Int)⟩ := by
    simp [Form.ins]
  rw [hI]
  clear hI
  obtain ⟨d, hd, hd0, hd1⟩ : ∃ d, sx32 (leNat l : Int) = d ∧ -2147483648 ≤ d ∧ d ≤ 2147483647 := ⟨_, rfl, by unfold sx32; omega, by unfold sx32; omega⟩
  have hd4 : leB d 4 = l := by rw [← hd, leB_sx32]; exact hb
  rw [hd]
  have ha := and7 ((b2.toNat : Int) % 8 + 8 * ((b0.toNat : Int) % 2)) (by omega) (by omega)
  refine ⟨?_, ?_, ?_, ?_⟩
  · (simp [okB, okCond, okRest, regB, wideB, ha] <;> omega)
  · simp only [encL]
    simp
    (repeat' apply And.intro) <;> first | exact hd4 | exact hb | (apply ub_eq; (try simp only [rexI]); (repeat' split) <;> omega) | (apply UInt8.toNat_inj.1; simp; omega)
  · (simp <;> omega)
  · (simp <;> omega)
end Go.Proofs.Ytegnmnhdpnmnpaa
