/- Plain laws of instructions: what is encoded is decoded, and what is decoded has those bytes; no walk here. -/
import Derived.Test.YtegnmnhdpnmnpaaCode
import Derived.Test.YtegnmnhdpnmnpaaDecForms
namespace Go.Proofs.Ytegnmnhdpnmnpaa
set_option linter.unusedVariables false
set_option linter.unusedSimpArgs false

/-- How many bytes a form has. -/
def Form.size (f : Form) : Nat := f.steps.length + f.more

theorem decodeGo_spec (bs : List UInt8) : ∀ (fs : List Form) (e : Int),
    (∃ f, f ∈ fs ∧ f.fits bs = true ∧ f.size ≤ bs.length ∧ decodeGo bs fs e = (f.ins (bs.take f.size), (f.size : Int), 0)) ∨
    ((∀ f, f ∈ fs → f.fits bs = true → bs.length < f.size) ∧ (decodeGo bs fs e = ({}, 0, e) ∨ decodeGo bs fs e = ({}, 0, 2)) ∧
      ((∀ f, f ∈ fs → f.fits bs = false) → decodeGo bs fs e = ({}, 0, e)) ∧ ((∃ f, f ∈ fs ∧ f.fits bs = true) ∨ e = 2 → decodeGo bs fs e = ({}, 0, 2)))
  | [], e => .inr ⟨fun f h => by simp at h, .inl rfl, fun _ => rfl, fun h => by
      rcases h with ⟨f, h, _⟩ | rfl
      · simp at h
      · rfl⟩
  | f :: fs, e => by
    by_cases hf : f.fits bs = true
    · by_cases hl : f.steps.length + f.more ≤ bs.length
      · refine .inl ⟨f, by simp, hf, hl, ?_⟩
        simp only [decodeGo, hf, if_true, if_pos hl]
        rfl
      · have e1 : decodeGo bs (f :: fs) e = decodeGo bs fs 2 := by simp only [decodeGo, hf, if_true, if_neg hl]
        rcases decodeGo_spec bs fs 2 with ⟨g, h1, h2, h3, h4⟩ | ⟨h1, h2, h3, h4⟩
        · exact .inl ⟨g, List.mem_cons_of_mem _ h1, h2, h3, e1.trans h4⟩
        · refine .inr ⟨fun g hg hgf => ?_, ?_, fun h => ?_, fun _ => ?_⟩
          · rcases List.mem_cons.1 hg with rfl | hg
            · unfold Form.size; omega
            · exact h1 g hg hgf
          · exact .inr (by rw [e1]; exact h4 (.inr rfl))
          · have := h f (by simp); rw [this] at hf; cases hf
          · rw [e1]; exact h4 (.inr rfl)
    · have hf' : f.fits bs = false := by simpa using hf
      have e1 : decodeGo bs (f :: fs) e = decodeGo bs fs e := by simp only [decodeGo, hf', Bool.false_eq_true, if_false]
      rcases decodeGo_spec bs fs e with ⟨g, h1, h2, h3, h4⟩ | ⟨h1, h2, h3, h4⟩
      · exact .inl ⟨g, List.mem_cons_of_mem _ h1, h2, h3, e1.trans h4⟩
      · refine .inr ⟨fun g hg hgf => ?_, by rw [e1]; exact h2, fun h => by rw [e1]; exact h3 fun g hg => h g (List.mem_cons_of_mem _ hg), fun h => ?_⟩
        · rcases List.mem_cons.1 hg with rfl | hg
          · rw [hf'] at hgf; cases hgf
          · exact h1 g hg hgf
        · rw [e1]
          refine h4 ?_
          rcases h with ⟨g, hg, hgf⟩ | h
          · rcases List.mem_cons.1 hg with rfl | hg
            · rw [hf'] at hgf; cases hgf
            · exact .inl ⟨g, hg, hgf⟩
          · exact .inr h

/-- What fits, fits as far as it is there. -/
theorem fits_take {f : Form} {bs : List UInt8} (h : f.fits bs = true) (i : Nat) (h0 : 0 < f.steps.length) : f.fits (bs.take i) = true := by
  unfold Form.fits at *
  simp only [Bool.and_eq_true, Bool.or_eq_true, Bool.not_eq_true', decide_eq_true_eq] at *
  refine ⟨?_, ?_⟩
  · rw [fitsGo_iff]
    intro j h1 h2
    simp only [List.length_take] at h2
    rw [List.getElem_take]
    exact (fitsGo_iff _ _).1 h.1 j h1 (by omega)
  · rcases h.2 with (h2 | h2) | h2
    · exact .inl (.inl h2)
    · exact .inl (.inr (by simp only [List.length_take]; omega))
    · by_cases hl : i < f.steps.length
      · exact .inl (.inr (by simp only [List.length_take]; omega))
      · refine .inr ?_
        rw [List.getD_eq_getElem?_getD, List.getElem?_take_of_lt (by omega), ← List.getD_eq_getElem?_getD]
        exact h2
theorem fits_step {f : Form} {bs : List UInt8} (h : f.fits bs = true) (i : Nat) (h1 : i < f.steps.length) (h2 : i < bs.length) : stepOk f.steps[i] bs[i] = true := by
  unfold Form.fits at h
  rw [Bool.and_eq_true] at h
  exact (fitsGo_iff _ _).1 h.1 i h1 h2

def clash : List (Nat × Nat) → List (Nat × Nat) → Bool
  | s :: ss, t :: ts => !(s.2 &&& t.1 == t.2 &&& s.1) || clash ss ts
  | _, _ => false
theorem clash_at : ∀ (ss ts : List (Nat × Nat)), clash ss ts = true → ∃ i, ∃ (h1 : i < ss.length) (h2 : i < ts.length), ss[i].2 &&& ts[i].1 ≠ ts[i].2 &&& ss[i].1
  | s :: ss, t :: ts, h => by
    simp only [clash, Bool.or_eq_true, Bool.not_eq_true', beq_eq_false_iff_ne] at h
    rcases h with h | h
    · exact ⟨0, by simp, by simp, h⟩
    · obtain ⟨i, h1, h2, h3⟩ := clash_at ss ts h
      exact ⟨i + 1, by simpa using h1, by simpa using h2, h3⟩
  | [], _, h => by simp [clash] at h
  | _ :: _, [], h => by simp [clash] at h
theorem forms_clash : ∀ f, f ∈ FORMS → ∀ g, g ∈ FORMS → f = g ∨ clash f.steps g.steps = true := by decide +kernel
theorem forms_pos : ∀ f, f ∈ FORMS → 0 < f.steps.length ∧ f.steps.length + f.more ≤ 10 := by decide +kernel
/-- Where a form is there whole, no other one fits. -/
theorem forms_one {f g : Form} {bs : List UInt8} (hf : f ∈ FORMS) (hg : g ∈ FORMS) (h1 : f.fits bs = true) (h2 : g.fits bs = true) (hl : f.steps.length ≤ bs.length) : f = g := by
  rcases forms_clash f hf g hg with h | h
  · exact h
  · obtain ⟨i, h3, h4, h5⟩ := clash_at _ _ h
    have k1 := fits_step h1 i h3 (by omega)
    have k2 := fits_step h2 i h4 (by omega)
    simp only [stepOk, beq_iff_eq] at k1 k2
    refine absurd ?_ h5
    rw [← k1, ← k2, Nat.and_assoc, Nat.and_assoc, Nat.and_comm f.steps[i].1]

theorem decodeL_of {f : Form} (hf : f ∈ FORMS) {bs : List UInt8} (h : f.fits bs = true) (hl : f.size ≤ bs.length) : decodeL bs = (f.ins (bs.take f.size), (f.size : Int), 0) := by
  unfold decodeL
  rcases decodeGo_spec bs FORMS 16 with ⟨g, h1, h2, h3, h4⟩ | ⟨h1, -⟩
  · have := forms_one hf h1 h h2 (by unfold Form.size at hl; omega)
    subst this
    exact h4
  · have := h1 f hf h
    omega
theorem decodeL_short {f : Form} (hf : f ∈ FORMS) {bs : List UInt8} (h : f.fits bs = true) (hl : bs.length < f.size) : decodeL bs = ({}, 0, 2) := by
  unfold decodeL
  rcases decodeGo_spec bs FORMS 16 with ⟨g, h1, h2, h3, h4⟩ | ⟨h1, h2, h3, h4⟩
  · have := forms_one h1 hf h2 h (by unfold Form.size at h3; omega)
    subst this
    omega
  · exact h4 (.inl ⟨f, hf, h⟩)
theorem decodeL_none (b more : List UInt8) (h : ∀ f, f ∈ FORMS → f.fits b = false) : decodeL (b ++ more) = ({}, 0, 16) := by
  have h' : ∀ f, f ∈ FORMS → f.fits (b ++ more) = false := fun f hf => by
    cases e : f.fits (b ++ more) with
    | false => rfl
    | true =>
      have := fits_take e b.length (forms_pos f hf).1
      rw [List.take_left, h f hf] at this
      cases this
  unfold decodeL
  rcases decodeGo_spec (b ++ more) FORMS 16 with ⟨g, h1, h2, h3, h4⟩ | ⟨h1, h2, h3, h4⟩
  · rw [h' g h1] at h2; cases h2
  · exact h3 h'

/-! ### Numbers in bytes -/
theorem ub_eq {z : Int} {c : UInt8} (h : z % 256 = (c.toNat : Int)) : ub z = c := by
  apply UInt8.toNat_inj.1
  have := ub_val z
  omega
theorem emod_step (v m : Int) (hm : 0 < m) : v % 256 + 256 * (v / 256 % m) = v % (256 * m) := by
  have h1 := Int.mul_ediv_add_emod (v / 256) m
  have h2 := Int.emod_nonneg (v / 256) (Int.ne_of_gt hm)
  have h3 := Int.emod_lt_of_pos (v / 256) hm
  have e : v = v % 256 + 256 * (v / 256 % m) + 256 * m * (v / 256 / m) := by
    rw [Int.mul_assoc]
    omega
  have k : v % (256 * m) = (v % 256 + 256 * (v / 256 % m) + 256 * m * (v / 256 / m)) % (256 * m) := congrArg (· % (256 * m)) e
  rw [Int.add_mul_emod_self_left, Int.emod_eq_of_lt (a := v % 256 + 256 * (v / 256 % m)) (by omega) (by omega)] at k
  exact k.symm
theorem leNat_leB : ∀ (n : Nat) (v : Int), (leNat (leB v n) : Int) = v % (256 ^ n : Nat)
  | 0, v => by simp [leNat, leB]
  | n + 1, v => by
    have ih := leNat_leB n (v / 256)
    have hu := ub_val v
    have hp : 0 < 256 ^ n := Nat.pow_pos (by omega)
    have e : ((256 ^ (n + 1) : Nat) : Int) = 256 * ((256 ^ n : Nat) : Int) := by
      rw [Nat.pow_succ, Nat.mul_comm]; exact Int.natCast_mul 256 (256 ^ n)
    rw [e, ← emod_step v _ (by omega), ← ih, ← hu]
    simp only [leB, leNat]
    omega
theorem leB_leNat : ∀ l : List UInt8, leB (leNat l : Int) l.length = l
  | [] => rfl
  | c :: l => by
    have h := c.toNat_lt
    simp only [leNat, List.length_cons, leB]
    have e1 : ub ((c.toNat + 256 * leNat l : Nat) : Int) = c := ub_eq (by omega)
    have e2 : ((c.toNat + 256 * leNat l : Nat) : Int) / 256 = (leNat l : Int) := by omega
    rw [e1, e2, leB_leNat l]
theorem leB_congr4 {u v : Int} (h : u % 4294967296 = v % 4294967296) : leB u 4 = leB v 4 := by
  simp only [leB]
  rw [ub_congr (show u % 256 = v % 256 by omega), ub_congr (show u / 256 % 256 = v / 256 % 256 by omega), ub_congr (show u / 256 / 256 % 256 = v / 256 / 256 % 256 by omega), ub_congr (show u / 256 / 256 / 256 % 256 = v / 256 / 256 / 256 % 256 by omega)]
theorem leB_sx32 (v : Int) : leB (sx32 v) 4 = leB v 4 := leB_congr4 (by unfold sx32; omega)
theorem ub_sx8 (v : Int) : ub (sx8 v) = ub v := ub_congr (by unfold sx8; omega)
theorem ub_sx8m (v : Int) : ub (sx8 v % 18446744073709551616) = ub v := ub_congr (by unfold sx8; omega)

theorem m255 (c : UInt8) : c.toNat &&& 255 = c.toNat := by
  have h : ∀ n : Fin 256, n.val &&& 255 = n.val := by decide +kernel
  exact h ⟨c.toNat, c.toNat_lt⟩
theorem m248 (c : UInt8) : c.toNat &&& 248 = c.toNat / 8 * 8 := by
  have h : ∀ n : Fin 256, n.val &&& 248 = n.val / 8 * 8 := by decide +kernel
  exact h ⟨c.toNat, c.toNat_lt⟩
theorem m254 (c : UInt8) : c.toNat &&& 254 = c.toNat / 2 * 2 := by
  have h : ∀ n : Fin 256, n.val &&& 254 = n.val / 2 * 2 := by decide +kernel
  exact h ⟨c.toNat, c.toNat_lt⟩
theorem m192 (c : UInt8) : c.toNat &&& 192 = c.toNat / 64 * 64 := by
  have h : ∀ n : Fin 256, n.val &&& 192 = n.val / 64 * 64 := by decide +kernel
  exact h ⟨c.toNat, c.toNat_lt⟩
theorem m251 (c : UInt8) : c.toNat &&& 251 = c.toNat / 8 * 8 + c.toNat % 4 := by
  have h : ∀ n : Fin 256, n.val &&& 251 = n.val / 8 * 8 + n.val % 4 := by decide +kernel
  exact h ⟨c.toNat, c.toNat_lt⟩
theorem m250 (c : UInt8) : c.toNat &&& 250 = c.toNat / 8 * 8 + c.toNat % 4 / 2 * 2 := by
  have h : ∀ n : Fin 256, n.val &&& 250 = n.val / 8 * 8 + n.val % 4 / 2 * 2 := by decide +kernel
  exact h ⟨c.toNat, c.toNat_lt⟩
theorem m199 (c : UInt8) : c.toNat &&& 199 = c.toNat / 64 * 64 + c.toNat % 8 := by
  have h : ∀ n : Fin 256, n.val &&& 199 = n.val / 64 * 64 + n.val % 8 := by decide +kernel
  exact h ⟨c.toNat, c.toNat_lt⟩
theorem m7 (c : UInt8) : c.toNat &&& 7 = c.toNat % 8 := by
  have h : ∀ n : Fin 256, n.val &&& 7 = n.val % 8 := by decide +kernel
  exact h ⟨c.toNat, c.toNat_lt⟩
end Go.Proofs.Ytegnmnhdpnmnpaa
