/- form.ins. -/
import Derived.Deep.RegionHeld3
import Derived.Test.YtegnmnhdpnmnpaaFits
import Derived.Test.YtegnmnhdpnmnpaaNumber
namespace Go.Proofs.Ytegnmnhdpnmnpaa
set_option linter.unusedVariables false
set_option linter.unusedSimpArgs false
open Go.RowKit

def Ins.cells (x : Ins) : Array Value := #[.int .i64 x.op, .int .i64 x.a, .int .i64 x.b, .int .i64 x.alu, .int .i64 x.cc, .int .u64 x.imm, .int .i64 x.disp]

theorem wrap64_i32 (v : Int) : wrap64 (IntKind.i32.wrap v) = sx32 v := by
  have h : IntKind.i32.wrap v = sx32 v := by
    unfold IntKind.wrap sx32
    simp only [IntKind.bits, IntKind.signed, Bool.true_and]
    split <;> simp_all <;> omega
  rw [h]; unfold sx32 wrap64; omega
theorem wrap64_w32 (v : Int) : wrap64 (wrap32 v) = sx32 v := by
  unfold sx32 wrap64 wrap32; omega
theorem wrap64_i8 (v : Int) : wrap64 (IntKind.i8.wrap v) = sx8 v := by
  have h : IntKind.i8.wrap v = sx8 v := by
    unfold IntKind.wrap sx8
    simp only [IntKind.bits, IntKind.signed, Bool.true_and]
    split <;> simp_all <;> omega
  rw [h]; unfold sx8 wrap64; omega
theorem wrapu64_i8 (v : Int) : IntKind.u64.wrap (sx8 v) = sx8 v % 18446744073709551616 := by
  unfold IntKind.wrap
  simp only [IntKind.bits, IntKind.signed, Bool.false_and]
  simp

set_option maxRecDepth 100000 in
set_option maxHeartbeats 8000000 in
theorem ins_any (w : World) (g o : Nat) (cap : Nat) (bs : List UInt8) (hb : ∀ i (h : i < bs.length), w.cell? ⟨g, o + i, none⟩ = some (.int .u8 (bs[i].toNat : Int))) (hlen : bs.length ≤ 15) (sb : Nat) (f : Form)
    (hn : 0 < f.steps.length) (hnl : f.steps.length ≤ bs.length) (hcap : bs.length ≤ cap) (hcap2 : cap ≤ 9223372036854775807) (hm8 : bs.length ≤ f.steps.length + 8) (ho1 : 1 ≤ f.op) (ho2 : f.op ≤ 23) :
    Calls Try.prog 46 #[f.val sb, .slice (some ⟨g, o, none⟩) bs.length cap] w fun e w' => e = .returned (.agg (f.ins bs).cells) ∧ Fr [] w w' := by
  generalize hX : f.ins bs = X
  have HX := Lib.hid hX
  clear hX
  unfold Form.val
  obtain ⟨steps, more, op, alu, cc⟩ := f
  simp only at *
  have hg : g < w.heap.size := World.block_lt_of_cell? w _ (hb 0 (by omega))
  obtain ⟨L, hL, cn, HL⟩ : ∃ L : Nat, L < 256 ∧ w.cell? ⟨g, o + (steps.length - 1), none⟩ = some (.int .u8 (L : Int)) ∧ Hid (L = (bs.getD (steps.length - 1) 0).toNat) :=
    ⟨_, (bs[steps.length - 1]).toNat_lt, hb (steps.length - 1) (by omega), by rw [List.getD_eq_getElem?_getD, List.getElem?_eq_getElem (by omega)]; rfl⟩
  obtain ⟨B, hB, c0, HB0⟩ : ∃ B : Nat, B < 256 ∧ w.cell? ⟨g, o, none⟩ = some (.int .u8 (B : Int)) ∧ Hid (B = (bs.getD 0 0).toNat) :=
    ⟨_, (bs[0]).toNat_lt, by simpa using hb 0 (by omega), by rw [List.getD_eq_getElem?_getD, List.getElem?_eq_getElem (by omega)]; rfl⟩
  have hlt0 : 0 < bs.length := by omega
  have hcap3 : cap ≤ 9223372036854775807 := by omega
  have hlen3 : bs.length ≤ 9223372036854775807 := by omega
  obtain ⟨av, hav⟩ : ∃ av : Option Addr, (if cap = steps.length then some ⟨g, o, none⟩ else some ⟨g, o + steps.length, none⟩) = av := ⟨_, rfl⟩
  have hdrop : ByteCells w av (bs.drop steps.length) := by
    rw [← hav]
    split
    · exact .inl (by simp; omega)
    · exact .inr ⟨g, o + steps.length, rfl, fun i hi => by
        have := hb (steps.length + i) (by simp at hi; omega)
        rw [show o + steps.length + i = o + (steps.length + i) by omega, this]; simp⟩
  have hdl : (bs.drop steps.length).length = bs.length - steps.length := by simp
  generalize hN : numOf (upto (bwAt (bs.drop steps.length)) (bs.drop steps.length).length) = N at *
  have HN := Lib.hid hN
  have hnum : ∀ W, Fr [] w W → Calls Try.prog 56 #[.slice av (bs.length - steps.length) (cap - steps.length)] W fun e W' => e = .returned (.int .u64 N) ∧ Fr [] W W' := fun W hW => by
    have := number_any av (cap - steps.length) (bs.drop steps.length) (by simp; omega) W (hdrop.fr hW (fun _ _ _ => by simp))
    rw [hdl, ← hdl, hN] at this
    rw [← hdl]; exact this
  have Hnum := Lib.hid hnum
  have HD := Lib.hid hdl
  clear hnum hdl hdrop hN
  go_enter Try.func46, Try.ntmps46
  go_wp2_with fail
  refine wp_world (fun W => Fr [] w W ∧ W.heap[w.heap.size]? = some (.cells #[.slice (some ⟨sb, 0, none⟩) steps.length steps.length, .int .i64 more, .int .i64 op, .int .i64 alu, .int .i64 cc] 90 (0, 0)) ∧
      W.heap[w.heap.size + 1]? = some (.cells #[.int .i64 0, .int .i64 0, .int .i64 0, .int .i64 0, .int .i64 0, .int .u64 0, .int .i64 0] 24 (0, 0)) ∧
      W.heap[w.heap.size + 1 + 1]? = some (.cells #[.int .i64 op, .int .i64 0, .int .i64 0, .int .i64 alu, .int .i64 cc, .int .u64 0, .int .i64 0] 24 (0, 0)))
    ⟨(((Fr.refl [] w).alloc _).alloc _).alloc _, heap_old _ (heap_old _ (heap_new _ _)), heap_old _ (by simpa using heap_new (w.alloc _) _), by simpa using heap_new ((w.alloc _).alloc _) _⟩ ?_
  rintro W ⟨hfr, hBx, hB1, hB2⟩
  have HB := Lib.hid hBx
  have HB1 := Lib.hid hB1
  have HB2 := Lib.hid hB2
  have hf1 := (cells5 hBx).1
  have d0 := hfr.cell c0 (by simp)
  have dn := hfr.cell cn (by simp)
  clear hBx hB1 hB2 cn
  have q1 : IntKind.i64.wrap ((steps.length : Int) - 1) = (steps.length : Int) - 1 := IntWalk.i64_in _ (by omega)
  have q2 : (0 : Int) ≤ (steps.length : Int) - 1 := by omega
  have q3 : ((steps.length : Int) - 1).toNat = steps.length - 1 := by omega
  have q4 : (steps.length : Int) - 1 < (bs.length : Int) := by omega
  have q5 : (steps.length : Int) ≤ (bs.length : Int) := by omega
  have q7 : (1 : Int) ≤ (steps.length : Int) := by omega
  go_region_held3 (fun w' => w'.cell? ⟨w.heap.size, 0, none⟩ = some (.slice (some ⟨sb, 0, none⟩) steps.length steps.length) ∧ w'.cell? ⟨g, o + (steps.length - 1), none⟩ = some (.int .u8 (L : Int)))
    (first | go_keep | (refine ⟨hfr'.cell ?_ (by simp), hfr'.cell ?_ (by simp)⟩ <;> assumption))
    (first | (go_at_call 56; refine (Hnum.out _ ?_).mono ?_; exact hfr.drew; rintro e W1 ⟨rfl, hfr'⟩))
  clear Hnum HD hf1 dn
  have hfr2 := hfr.drew.then0 hfr'
  have e0 := hfr2.cell c0 (by simp)
  obtain ⟨x0, x1, x2, x3, x4, x5, x6, xf⟩ := cells7 (hfr'.heap HB1.out (by simp))
  obtain ⟨y0, y1, y2, y3, y4, y5, y6, yf⟩ := cells7 (hfr'.heap HB2.out (by simp))
  obtain ⟨z0, z1, z2, z3, z4, zf⟩ := cells5 (hfr'.heap HB.out (by simp))
  have r1 : bits .and .i64 ((L : Int) / 8) 7 = (L : Int) / 8 % 8 := by
    have := bits_and7 .i64 (L / 8) (by omega) rfl
    simpa using this
  have r2 : bits .and .i64 (L : Int) 7 = (L : Int) % 8 := bits_and7 .i64 L (by omega) rfl
  have r3 : bits .and .u8 ((B : Int) / 4) 1 = (B : Int) / 4 % 2 := by
    have := bits_and_u8' (B / 4) 1 (by omega) (by omega)
    rw [Nat.and_one_is_mod] at this
    simpa using this
  have r4 : bits .and .u8 (B : Int) 1 = (B : Int) % 2 := by
    have := bits_and_u8' B 1 (by omega) (by omega)
    rw [Nat.and_one_is_mod] at this
    simpa using this
  have hlt1 : (0 : Int) < (bs.length : Int) := by omega
  clear HB HB1 HB2 hfr hfr' d0 c0
  have hops : op = 1 ∨ op = 2 ∨ op = 3 ∨ op = 4 ∨ op = 5 ∨ op = 6 ∨ op = 7 ∨ op = 8 ∨ op = 9 ∨ op = 10 ∨ op = 11 ∨ op = 12 ∨ op = 13 ∨ op = 14 ∨ op = 15 ∨ op = 16 ∨ op = 17 ∨ op = 18 ∨ op = 19 ∨ op = 20 ∨ op = 21 ∨ op = 22 ∨ op = 23 := by omega
  go_wp2_with fail
  go_quiet (fail)
  rcases hops with rfl | rfl | rfl | rfl | rfl | rfl | rfl | rfl | rfl | rfl | rfl | rfl | rfl | rfl | rfl | rfl | rfl | rfl | rfl | rfl | rfl | rfl | rfl
  all_goals
    go_wp2_with fail
    refine ⟨rfl, ?_⟩
    simp only [results, Try.results46]
    simp [go_sem, x0, x1, x2, x3, x4, x5, x6, y0, y1, y2, y3, y4, y5, y6, xf, yf]
    refine ⟨?_, ?_⟩
    · rw [← HX.out]
      simp only [Form.ins, Ins.cells, ← HL.out, ← HB0.out, HN.out.symm.trans (numOf_le _ (by simp; omega))]
      simp [wrap64_i32, wrap64_w32, wrap64_i8, wrapu64_i8]
    · repeat' (with_reducible (first | apply Fr.setCell | exact hfr2.drewN _))
      all_goals (right; first | (simp; done) | (simp; omega))
end Go.Proofs.Ytegnmnhdpnmnpaa
