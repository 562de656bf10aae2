/- form.fits. -/
import Derived.Test.YtegnmnhdpnmnpaaProg
import Derived.Test.YtegnmnhdpnmnpaaBase
import Derived.Test.YtegnmnhdpnmnpaaDecSpec
namespace Go.Proofs.Ytegnmnhdpnmnpaa
set_option linter.unusedVariables false
set_option linter.unusedSimpArgs false
open Go.RowKit

def stepCells (l : List (Nat × Nat)) : List Value := l.flatMap fun s => [.int .u8 (s.1 : Int), .int .u8 (s.2 : Int)]

/-- A form as a value, its steps' slice given. -/
def Form.val (f : Form) (sb : Nat) : Value :=
  .agg #[.slice (some ⟨sb, 0, none⟩) f.steps.length f.steps.length, .int .i64 (f.more : Int), .int .i64 (f.op : Int), .int .i64 (f.alu : Int), .int .i64 (f.cc : Int)]

theorem step_test (s : Nat × Nat) (c : UInt8) (hm : s.1 < 256) : (bits BinOp.and IntKind.u8 ↑c.toNat ↑s.1 != ↑s.2) = !stepOk s c := by
  rw [bits_and_u8 _ _ hm]
  unfold stepOk
  cases h : (c.toNat &&& s.1 == s.2) with
  | true => simp only [beq_iff_eq] at h; simp [h]
  | false => simp only [beq_eq_false_iff_ne, ne_eq] at h; simp; omega
theorem low_test (c : UInt8) : (bits BinOp.and IntKind.u8 ↑c.toNat 7 != 4) = !(c.toNat &&& 7 == 4) := by
  have := step_test (7, 4) c (by decide)
  simpa [stepOk] using this

set_option maxRecDepth 100000 in
theorem fits_test (w : World) (a : Option Addr) (cap : Nat) (bs : List UInt8) (hb : ByteCells w a bs) (hlen : bs.length ≤ 9223372036854775807) (sb : Nat) (f : Form)
    (hs : ∀ i (h : i < f.steps.length), w.cell? ⟨sb, i * 2, none⟩ = some (.int .u8 ((f.steps[i]).1 : Int)) ∧ w.cell? ⟨sb, i * 2 + 1, none⟩ = some (.int .u8 ((f.steps[i]).2 : Int)))
    (hm : ∀ i (h : i < f.steps.length), (f.steps[i]).1 < 256) (hn : 0 < f.steps.length) (hn4 : f.steps.length ≤ 4) :
    Calls Try.prog 45 #[f.val sb, .slice a bs.length cap] w fun e w' => e = .returned (.bool (f.fits bs)) ∧ Fr [] w w' := by
  have F1 := Lib.hid (fits_no_at f bs)
  have F2 := Lib.hid (fits_all f bs)
  unfold Form.val
  obtain ⟨steps, more, op, alu, cc⟩ := f
  generalize hR : ({ steps := steps, more := more, op := op, alu := alu, cc := cc } : Form).fits bs = R at *
  have HR := Lib.hid hR
  clear hR
  simp only at *
  have hsb : sb < w.heap.size := World.block_lt_of_cell? w _ (hs 0 hn).1
  go_enter Try.func45, Try.ntmps45
  go_wp2_with fail
  all_goals
    go_loopw [5, 13] (fun _ i wr => ∃ k : Nat, k ≤ steps.length ∧ k ≤ bs.length ∧ i = .int .i64 k ∧ Hid (fitsGo (steps.take k) bs = true) ∧ (∃ n, (w.alloc (.cells #[.slice (some ⟨sb, 0, none⟩) steps.length steps.length, .int .i64 more, .int .i64 op, .int .i64 alu, .int .i64 cc] 90)).drewN n = wr)) (fun _ i _ => steps.length - (intOf i).toNat)
    case atStart => exact ⟨0, by omega, by omega, rfl, rfl, 0, rfl⟩
    case round =>
      obtain ⟨k, hk1, hk2, rfl, hfit, n, rfl⟩ := hrel
      by_cases hlt : k < steps.length ∧ k < bs.length
      · obtain ⟨h1, h2⟩ := hlt
        obtain ⟨g, o, rfl, hg, hbc⟩ := hb.at_ (by omega)
        have c0 := hbc k h2
        have c1 := (hs k h1).1
        have c2 := (hs k h1).2
        have hx := step_test (steps[k]) (bs[k]) (hm k h1)
        clear hs hbc hb
        cases hst : stepOk steps[k] bs[k] with
        | false =>
          rw [hst] at hx
          have Hst := Lib.hid hst
          clear hst
          go_wp2_with fail
          go_quiet (fail)
          go_wp2_with fail
          have fin := F1.out k h1 h2 Hst.out
          go_ret
          exact ⟨by rw [fin]; rfl, ((Fr.refl [] w).alloc _).drewN _ |>.drewN _⟩
        | true =>
          rw [hst] at hx
          have Hst := Lib.hid hst
          clear hst
          go_wp2_with fail
          go_quiet (fail)
          go_wp2_with fail
          go_roundw
          case rel => exact ⟨k + 1, by omega, by omega, by go_num, fitsGo_take_succ _ _ _ h1 h2 hfit.out Hst.out, n + nq, by simp [World.drewN]⟩
          case measure => simp [intOf]; omega
      · have fin := Lib.hid (F2.out k hk1 hk2 hlt hfit.out)
        clear hs F1 F2
        by_cases hmem : op = 9 ∨ op = 10
        · by_cases hsl : bs.length < steps.length
          · first
            | (exfalso; omega)
            | (rcases hmem with rfl | rfl
               all_goals
                 go_wp2_with fail
                 go_ret
                 exact ⟨by rw [fin.out]; simp [Form.mem, hsl], ((Fr.refl [] w).alloc _).drewN _⟩)
          · obtain ⟨g, o, rfl, hg, hbc⟩ := hb.at_ (by omega)
            have c0 := hbc (steps.length - 1) (by omega)
            have hx := low_test (bs[steps.length - 1])
            have hd : (bs.getD (steps.length - 1) 0) = bs[steps.length - 1] := by rw [List.getD_eq_getElem?_getD, List.getElem?_eq_getElem (by omega)]; rfl
            have fin := Lib.hid (fin.out.trans (by rw [hd]))
            clear hbc hb hd
            rcases hmem with rfl | rfl
            all_goals
              go_wp2_with fail
              go_ret
              exact ⟨by rw [fin.out]; simp [Form.mem, hsl], ((Fr.refl [] w).alloc _).drewN _⟩
        · have e9 : ((op : Int) == 9) = false := by simp; omega
          have e10 : ((op : Int) == 10) = false := by simp; omega
          go_wp2_with fail
          go_ret
          have hm0 : (op == 9 || op == 10) = false := by simp; omega
          exact ⟨by rw [fin.out]; simp [Form.mem, hm0], ((Fr.refl [] w).alloc _).drewN _⟩
end Go.Proofs.Ytegnmnhdpnmnpaa
