/- dec.Ok and what it calls. -/
import Derived.Test.YtegnmnhdpnmnpaaBytes
namespace Go.Proofs.Ytegnmnhdpnmnpaa
set_option linter.unusedVariables false
set_option linter.unusedSimpArgs false
open Go.RowKit

/-- Where a number stands in a row; -1: nowhere. -/
def idxL (l : List Int) (v : Int) : Int := match l.findIdx? (· == v) with
  | some i => (i : Int)
  | none => -1

theorem idxL_hit (l : List Int) (v : Int) (k : Nat) (hk : k < l.length) (hno : ∀ j (h : j < l.length), j < k → l[j] ≠ v) (he : l[k] = v) : idxL l v = k := by
  have : l.findIdx? (· == v) = some k := by
    rw [List.findIdx?_eq_some_iff_getElem]
    exact ⟨hk, by simpa using he, fun j hj => by simpa using hno j (by omega) hj⟩
  simp [idxL, this]
theorem idxL_miss (l : List Int) (v : Int) (hno : ∀ j (h : j < l.length), l[j] ≠ v) : idxL l v = -1 := by
  have : l.findIdx? (· == v) = none := by
    rw [List.findIdx?_eq_none_iff]
    intro x hx
    obtain ⟨j, hj, rfl⟩ := List.getElem_of_mem hx
    simpa using hno j hj
  simp [idxL, this]

/-- A row of numbers in memory. -/
def IntCells (w : World) (g : Nat) (l : List Int) : Prop := ∀ i (h : i < l.length), w.cell? ⟨g, i, none⟩ = some (.int .i64 l[i])

set_option maxRecDepth 100000 in
set_option maxHeartbeats 1000000 in
theorem index_any (w : World) (g cap : Nat) (l : List Int) (hl : l.length ≤ 100) (v : Int) (hc : IntCells w g l) :
    Calls Try.prog 40 #[.slice (some ⟨g, 0, none⟩) l.length cap, .int .i64 v] w fun e w' => e = .returned (.int .i64 (idxL l v)) ∧ w = w' := by
  have F1 := Lib.hid (idxL_hit l v)
  have F2 := Lib.hid (idxL_miss l v)
  go_enter Try.func40, Try.ntmps40
  go_wp2_with fail
  go_loop [5, 8] (fun _ i => ∃ k : Nat, k ≤ l.length ∧ i = .int .i64 k ∧ Hid (∀ j (h : j < l.length), j < k → l[j] ≠ v)) (fun _ i => l.length - (intOf i).toNat)
  case atStart => exact ⟨0, by omega, rfl, fun j h hj => by omega⟩
  case round =>
    obtain ⟨k, hk, rfl, hno⟩ := hrel
    by_cases hlt : k < l.length
    · have hck := hc k hlt
      by_cases he : v = l[k]
      · have hx : (v == l[k]) = true := by simp [he]
        have fin := Lib.hid (F1.out k hlt hno.out he.symm)
        clear hc F1 F2 he
        go_wp2_with fail
        go_ret
        exact ⟨by rw [fin.out]; rfl, rfl⟩
      · have hx : (v == l[k]) = false := by simp [he]
        have hno' : Hid (∀ j (h : j < l.length), j < k + 1 → l[j] ≠ v) := fun j h hj => by
          by_cases e : j = k
          · subst e; exact fun h2 => he h2.symm
          · exact hno.out j h (by omega)
        clear hc F1 F2 he
        go_wp2_with fail
        go_round
        case rel => exact ⟨k + 1, by omega, by go_num, hno'⟩
        case measure => simp [intOf]; omega
    · have fin := Lib.hid (F2.out (fun j h => hno.out j h (by omega)))
      clear hc F1 F2
      go_wp2_with fail
      go_ret
      exact ⟨by rw [fin.out]; rfl, rfl⟩

theorem contains_any (w : World) (g cap : Nat) (l : List Int) (hl : l.length ≤ 100) (v : Int) (hc : IntCells w g l) :
    Calls Try.prog 26 #[.slice (some ⟨g, 0, none⟩) l.length cap, .int .i64 v] w fun e w' => e = .returned (.bool (l.contains v)) ∧ w = w' := by
  have hv : decide (0 ≤ idxL l v) = l.contains v := by
    unfold idxL
    cases h : l.findIdx? (· == v) with
    | some i =>
      have : v ∈ l := by
        rw [List.findIdx?_eq_some_iff_getElem] at h
        obtain ⟨hi, he, _⟩ := h
        have : l[i] = v := by simpa using he
        rw [← this]; exact List.getElem_mem hi
      simp [this]
    | none =>
      have : ¬ v ∈ l := by
        rw [List.findIdx?_eq_none_iff] at h
        intro hm
        simpa using h v hm
      simp [this]
  go_enter Try.func26, Try.ntmps26
  go_wp2_with (go_at_call 40; refine (index_any _ _ _ _ hl _ hc).mono ?_; rintro e w' ⟨rfl, rfl⟩)
  go_ret
  exact ⟨by simp [List.contains_eq_mem], rfl⟩

theorem bad_any (r : Int) (w : World) :
    Calls Try.prog 24 #[.int .i64 r] w fun e w' => e = .returned (.bool (!(decide (0 ≤ r) && decide (r ≤ 15)))) ∧ w = w' := by
  by_cases h0 : r < 0
  · have e : (!(decide (0 ≤ r) && decide (r ≤ 15))) = true := by simp; omega
    rw [e]
    go_enter Try.func24, Try.ntmps24
    go_wp2
    go_ret
    exact ⟨rfl, rfl⟩
  · by_cases h1 : r ≤ 15
    · have e : (!(decide (0 ≤ r) && decide (r ≤ 15))) = false := by simp; omega
      rw [e]
      have hd : decide (15 < r) = false := by simp; omega
      go_enter Try.func24, Try.ntmps24
      go_wp2
      go_ret
      exact ⟨rfl, rfl⟩
    · have e : (!(decide (0 ≤ r) && decide (r ≤ 15))) = true := by simp; omega
      rw [e]
      go_enter Try.func24, Try.ntmps24
      go_wp2
      go_ret
      exact ⟨rfl, rfl⟩
def wideB (n : Int) : Bool := decide (-2147483648 ≤ n) && decide (n ≤ 2147483647)
def shortB (n : Int) : Bool := decide (-128 ≤ n) && decide (n ≤ 127)
theorem wide_any (n : Int) (w : World) : Calls Try.prog 27 #[.int .i64 n] w fun e w' => e = .returned (.bool (wideB n)) ∧ w = w' := by
  unfold wideB
  go_enter Try.func27, Try.ntmps27
  go_wp2
  all_goals (go_ret; exact ⟨by simp_all <;> omega, rfl⟩)
theorem short_any (n : Int) (w : World) : Calls Try.prog 28 #[.int .i64 n] w fun e w' => e = .returned (.bool (shortB n)) ∧ w = w' := by
  unfold shortB
  go_enter Try.func28, Try.ntmps28
  go_wp2
  all_goals (go_ret; exact ⟨by simp_all <;> omega, rfl⟩)

/-- What stands for what a number is reckoned by: the numbers, and the bytes. -/
def groupOps (op : Int) : List Int := if op = 14 then [0, 1, 7] else if op = 15 then [5, 6] else [9, 10]
def groupCodes (op : Int) : List Int := if op = 14 then [192, 232, 248] else if op = 15 then [192, 200] else [224, 232]
def aluAll : List Int := [0, 1, 2, 3, 4, 7, 8]
def aluCodes : List Int := [1, 41, 33, 9, 49, 57, 133]
def condAll : List Int := [2, 3, 4, 5, 8, 9, 12, 13]

def intRow (l : List Int) : Obj := .cells (l.map (Value.int .i64)).toArray 3
def u8Row (l : List Int) : Obj := .cells (l.map (Value.int .u8)).toArray 5
theorem group_any (op : Int) (w : World) : Calls Try.prog 17 #[.int .i64 op] w fun e w' =>
    e = .returned (.tuple #[.slice (some ⟨w.heap.size, 0, none⟩) (groupOps op).length (groupOps op).length, .slice (some ⟨w.heap.size + 1, 0, none⟩) (groupCodes op).length (groupCodes op).length]) ∧
    (w.alloc (intRow (groupOps op))).alloc (u8Row (groupCodes op)) = w' := by
  by_cases h14 : op = 14
  · subst h14
    go_enter Try.func17, Try.ntmps17
    go_wp2
    go_ret2
    exact ⟨rfl, rfl⟩
  · by_cases h15 : op = 15
    · subst h15
      go_enter Try.func17, Try.ntmps17
      go_wp2
      go_ret2
      exact ⟨rfl, rfl⟩
    · have e1 : groupOps op = [9, 10] := by simp [groupOps, h14, h15]
      have e2 : groupCodes op = [224, 232] := by simp [groupCodes, h14, h15]
      rw [e1, e2]
      go_enter Try.func17, Try.ntmps17
      go_wp2
      go_ret2
      exact ⟨rfl, rfl⟩
theorem aluOps_any (w : World) : Calls Try.prog 25 #[] w fun e w' =>
    e = .returned (.tuple #[.slice (some ⟨w.heap.size, 0, none⟩) 7 7, .slice (some ⟨w.heap.size + 1, 0, none⟩) 7 7]) ∧ (w.alloc (intRow aluAll)).alloc (u8Row aluCodes) = w' := by
  go_enter Try.func25, Try.ntmps25
  go_wp2
  go_ret2
  exact ⟨rfl, rfl⟩
theorem conds_row (w : World) : Calls Try.prog 29 #[] w fun e w' => e = .returned (.slice (some ⟨w.heap.size, 0, none⟩) 8 8) ∧ w.alloc (intRow condAll) = w' := by
  go_enter Try.func29, Try.ntmps29
  go_wp2
  go_ret
  exact ⟨rfl, rfl⟩
end Go.Proofs.Ytegnmnhdpnmnpaa
