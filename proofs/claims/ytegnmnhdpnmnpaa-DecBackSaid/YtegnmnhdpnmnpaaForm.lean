/- The forms as they lie in memory, one by one. -/
import Derived.Test.YtegnmnhdpnmnpaaTab
import Derived.Test.YtegnmnhdpnmnpaaDecForms
namespace Go.Proofs.Ytegnmnhdpnmnpaa
set_option linter.unusedVariables false
set_option linter.unusedSimpArgs false
open Go.RowKit

theorem stepCells_at : ∀ (l : List (Nat × Nat)) (i : Nat) (h : i < l.length), (stepCells l)[i * 2]? = some (.int .u8 (l[i].1 : Int)) ∧ (stepCells l)[i * 2 + 1]? = some (.int .u8 (l[i].2 : Int))
  | s :: l, 0, _ => by simp [stepCells]
  | s :: l, i + 1, h => by
    have ih := stepCells_at l i (by simpa using h)
    have e : stepCells (s :: l) = .int .u8 (s.1 : Int) :: .int .u8 (s.2 : Int) :: stepCells l := by simp [stepCells]
    have e1 : (i + 1) * 2 = i * 2 + 1 + 1 := by omega
    rw [e, e1]
    simpa using ih
  | [], i, h => by simp at h

theorem formCells_length (f : Form) (b : Nat) : (formCells f b).length = 5 := rfl
theorem formsCells_at : ∀ (fs : List Form) (bs : List Nat) (i : Nat) (h : i < fs.length) (h2 : i < bs.length) (j : Nat), j < 5 → (formsCells fs bs)[i * 5 + j]? = (formCells fs[i] bs[i])[j]?
  | f :: fs, b :: bs, 0, _, _, j, hj => by
    simp only [formsCells, Nat.zero_mul, Nat.zero_add, List.getElem_cons_zero]
    rw [List.getElem?_append_left (by rw [formCells_length]; exact hj)]
  | f :: fs, b :: bs, i + 1, h, h2, j, hj => by
    have ih := formsCells_at fs bs i (by simpa using h) (by simpa using h2) j hj
    have e1 : (i + 1) * 5 + j = i * 5 + j + (formCells f b).length := by rw [formCells_length]; omega
    simp only [formsCells, List.getElem_cons_succ]
    rw [← ih, e1, List.getElem?_append_right (by omega)]
    simp
  | [], _, i, h, _, _, _ => by simp at h
  | _ :: _, [], i, _, h, _, _ => by simp at h

/-- Where a row of forms lies, and what lies there. -/
theorem FormsAt.at_ {B : Nat} {w : World} {v : Value} {fs : List Form} (h : FormsAt B w v fs) (hne : 0 < fs.length) :
    ∃ gg cap, v = .slice (some ⟨gg, 0, none⟩) fs.length cap ∧ ∀ i (hi : i < fs.length), ∃ sb,
      (w.cell? ⟨gg, i * 5, none⟩ = some (.slice (some ⟨sb, 0, none⟩) fs[i].steps.length fs[i].steps.length) ∧ w.cell? ⟨gg, i * 5 + 1, none⟩ = some (.int .i64 (fs[i].more : Int)) ∧
        w.cell? ⟨gg, i * 5 + 2, none⟩ = some (.int .i64 (fs[i].op : Int)) ∧ w.cell? ⟨gg, i * 5 + 3, none⟩ = some (.int .i64 (fs[i].alu : Int)) ∧ w.cell? ⟨gg, i * 5 + 4, none⟩ = some (.int .i64 (fs[i].cc : Int))) ∧
      ∀ j (hj : j < fs[i].steps.length), w.cell? ⟨sb, j * 2, none⟩ = some (.int .u8 ((fs[i].steps[j]).1 : Int)) ∧ w.cell? ⟨sb, j * 2 + 1, none⟩ = some (.int .u8 ((fs[i].steps[j]).2 : Int)) := by
  obtain ⟨bs, hl, hown, hst⟩ := h
  rcases hown.2 with ⟨_, hn⟩ | ⟨gg, cap, cur, hv, hg, hh, hle, hcm, hsz, htk⟩
  · omega
  · refine ⟨gg, cap, hv, fun i hi => ⟨bs[i]'(by omega), ?_, fun j hj => ?_⟩⟩
    · have key : ∀ j x, j < 5 → (formCells fs[i] (bs[i]'(by omega)))[j]? = some x → w.cell? ⟨gg, i * 5 + j, none⟩ = some x := by
        intro j x hj hx
        refine cell_of_heap hh ?_
        have h1 : (cur.toList.take (fs.length * 5))[i * 5 + j]? = (formsCells fs bs)[i * 5 + j]? := by rw [htk]
        rw [List.getElem?_take_of_lt (by omega), formsCells_at fs bs i hi (by omega) j hj, hx] at h1
        rw [← Array.getElem?_toList, h1]
      exact ⟨key 0 _ (by omega) rfl, key 1 _ (by omega) rfl, key 2 _ (by omega) rfl, key 3 _ (by omega) rfl, key 4 _ (by omega) rfl⟩
    · have hs := (hst i hi (by omega)).2
      have hc := stepCells_at fs[i].steps j hj
      exact ⟨cell_of_heap hs (by simpa using hc.1), cell_of_heap hs (by simpa using hc.2)⟩

/-- What all forms have in common. -/
theorem forms_fit : ∀ f ∈ FORMS, 0 < f.steps.length ∧ f.steps.length ≤ 3 ∧ f.more ≤ 8 ∧ 1 ≤ f.op ∧ f.op ≤ 23 ∧ ∀ s ∈ f.steps, s.1 < 256 := by decide
theorem forms_length : FORMS.length = 43 := by decide
theorem decodeGo_drop (bs : List UInt8) (k : Nat) (h : k < FORMS.length) (e : Int) : decodeGo bs (FORMS.drop k) e = if (FORMS[k]).fits bs then
    if (FORMS[k]).steps.length + (FORMS[k]).more ≤ bs.length then ((FORMS[k]).ins (bs.take ((FORMS[k]).steps.length + (FORMS[k]).more)), (((FORMS[k]).steps.length + (FORMS[k]).more : Nat) : Int), 0)
      else decodeGo bs (FORMS.drop (k + 1)) 2
    else decodeGo bs (FORMS.drop (k + 1)) e := by
  rw [List.drop_eq_getElem_cons h]
  rfl
end Go.Proofs.Ytegnmnhdpnmnpaa
