/- Table.Decode. -/
import Derived.Deep.RegionHeld3
import Derived.Deep.DeepCutAuto
import Derived.Deep.Light
import Derived.Test.YtegnmnhdpnmnpaaOnce2
import Derived.Test.YtegnmnhdpnmnpaaForm
import Derived.Test.YtegnmnhdpnmnpaaIns
namespace Go.Proofs.Ytegnmnhdpnmnpaa
set_option linter.unusedVariables false
set_option linter.unusedSimpArgs false
open Go.RowKit

theorem ByteCells.fr' {S : List Nat} {w w1 : World} {a : Option Addr} {bs : List UInt8} (h : ByteCells w a bs) (f : Fr S w w1) (hn : bs ≠ [] → ∀ g o, a = some ⟨g, o, none⟩ → ¬ g ∈ S) : ByteCells w1 a bs := by
  by_cases e : bs = []
  · exact .inl e
  · exact h.fr f (hn e)

set_option maxRecDepth 100000 in
set_option maxHeartbeats 2000000 in
theorem tdecode_any (w : World) (t : Nat) (c2 : Value) (hT : TabIs w w t (.int .u32 0) (.int .i32 0) c2 []) (a : Option Addr) (cap : Nat) (bs : List UInt8) (hb : ByteCells w a bs) (hne : bs ≠ [] → ∀ g o, a = some ⟨g, o, none⟩ → g ≠ t)
    (hcap : bs.length ≤ cap) (hcap2 : cap ≤ 9223372036854775807) :
    Calls Try.prog 23 #[.pointer (some ⟨t, 0, none⟩), .slice a bs.length cap] w fun e w' =>
      e = .returned (.tuple #[.agg (decodeL bs).1.cells, .int .i64 (decodeL bs).2.1, .int .i64 (decodeL bs).2.2]) ∧ Fr [t] w w' := by
  have ht0 := hT.lt
  obtain ⟨X, hX⟩ : ∃ X, decodeL bs = X := ⟨_, rfl⟩
  rw [hX]
  have HX := Lib.hid hX
  clear hX
  have HB := Lib.hid hb
  clear hb
  have hTR := fun o : Obj => hT.alloc o
  go_enter Try.func23, Try.ntmps23
  go_upto_region 2 with (go_at_call 43; refine (do_first w _ t ht0 c2 (hTR _)).mono ?_; rintro e W1 ⟨rfl, hT1, hK1⟩)
  have hR1 := hK1.keep _ _ (heap_new w _) (by decide)
  obtain ⟨v, hTb, hF, hfr⟩ := hT1
  obtain ⟨gg, cp, rfl, hforms⟩ := hF.at_ (by decide)
  have v3 : W1.cell? ⟨t, 3, none⟩ = some (.slice (some ⟨gg, 0, none⟩) FORMS.length cp) := cell_of_heap hTb rfl
  rw [forms_length] at v3
  have HB1 := Lib.hid (HB.out.fr' hfr (fun hn g o e => by simpa using hne hn g o e))
  have HF := Lib.hid hforms
  have HR1 := Lib.hid hR1
  clear hforms hF hTb hR1 hK1 hTR hT
  go_wp2_with fail
  clear v3
  go_loopw [7, 22] (fun ev i wr => ∃ (k : Nat) (z : Int) (V : World), V = wr ∧ k ≤ 43 ∧ i = .int .i64 k ∧ ev = .int .i64 z ∧ Hid (decodeGo bs (FORMS.drop k) z = X) ∧ Fr [] W1 wr) (fun _ i _ => 43 - (intOf i).toNat)
  case atStart => exact ⟨0, 16, _, rfl, by omega, rfl, rfl, Lib.hid HX.out, Fr.refl _ _⟩
  case round =>
    obtain ⟨k, z, V, rfl, hk, rfl, rfl, hgo, hV⟩ := hrel
    by_cases hlt : k < 43
    · have hlt' : k < FORMS.length := by rw [forms_length]; exact hlt
      obtain ⟨sb, ⟨q0, q1, q2, q3, q4⟩, hst⟩ := HF.out k hlt'
      obtain ⟨hf1, hf2, hf3, hf4, hf5, hf6⟩ := forms_fit FORMS[k] (List.getElem_mem _)
      have hdrop := decodeGo_drop bs k hlt' z
      rw [hgo.out] at hdrop
      have hm : ∀ i (h : i < (FORMS[k]).steps.length), ((FORMS[k]).steps[i]).1 < 256 := fun i h => hf6 _ (List.getElem_mem _)
      clear hf6
      generalize FORMS[k] = f at *
      have q0 := hV.cell q0 (by simp)
      have q1 := hV.cell q1 (by simp)
      have q2 := hV.cell q2 (by simp)
      have q3 := hV.cell q3 (by simp)
      have q4 := hV.cell q4 (by simp)
      have hst1 := Lib.hid hst
      have HD := Lib.hid hdrop
      clear hdrop hst
      go_upto_region 6 with fail
      refine wp_world (fun W => Fr [] V W ∧ W.heap[V.heap.size]? = some (.cells #[.slice (some ⟨sb, 0, none⟩) f.steps.length f.steps.length, .int .i64 (f.more : Int), .int .i64 (f.op : Int), .int .i64 (f.alu : Int), .int .i64 (f.cc : Int)] 90 (0, 0))) ⟨(Fr.refl [] V).alloc _, heap_new _ _⟩ ?_
      rintro W ⟨hW, hS⟩
      obtain ⟨x0, x1, x2, x3, x4, xf⟩ := cells5 hS
      have hVW := hV.trans hW
      have hBW := HB1.out.fr hVW (by simp)
      have hstW : ∀ i (h : i < f.steps.length), W.cell? ⟨sb, i * 2, none⟩ = some (.int .u8 ((f.steps[i]).1 : Int)) ∧ W.cell? ⟨sb, i * 2 + 1, none⟩ = some (.int .u8 ((f.steps[i]).2 : Int)) := fun i h =>
        ⟨hVW.cell (hst1.out i h).1 (by simp), hVW.cell (hst1.out i h).2 (by simp)⟩
      have FT := fits_test W a cap bs hBW (by omega) sb f hstW hm hf1 (by omega)
      have hblt : V.heap.size < W.heap.size := lt_of_heap hS
      have HBW := Lib.hid hBW
      obtain ⟨F, hF⟩ : ∃ F, f.fits bs = F := ⟨_, rfl⟩
      rw [hF] at FT
      have HD2 : Hid (X = if F then (if f.steps.length + f.more ≤ bs.length then (f.ins (bs.take (f.steps.length + f.more)), ((f.steps.length + f.more : Nat) : Int), 0) else decodeGo bs (FORMS.drop (k + 1)) 2) else decodeGo bs (FORMS.drop (k + 1)) z) := by
        have h := HD.out; rw [hF] at h; exact Lib.hid h
      unfold Form.val at FT
      have HV := Lib.hid hVW
      have hVs : W1.heap.size ≤ V.heap.size := hV.size
      clear HD hF hm hstW hBW q0 q1 q2 q3 q4 hS hV hW hst1 hgo hVW
      rcases F with _ | _
      · go_wp2_with (go_at_call 45; refine FT.mono ?_; rintro e W2 ⟨rfl, hW2⟩)
        go_roundw
        case rel => exact ⟨k + 1, z, _, rfl, by omega, by go_num, rfl, Lib.hid (by have h := HD2.out; simpa using h.symm), HV.out.trans hW2⟩
        case measure => simp [intOf]; omega
      · by_cases hn : f.steps.length + f.more ≤ bs.length
        · obtain ⟨g, o, rfl, hgl, hbc⟩ := HBW.out.at_ (by omega)
          obtain ⟨n, hnn⟩ : ∃ n, n = f.steps.length + f.more := ⟨_, rfl⟩
          have hsum : (f.steps.length : Int) + (f.more : Int) = (n : Int) := by omega
          have hnb : n ≤ bs.length := by omega
          have hXn : X = (f.ins (bs.take n), (n : Int), 0) := by have h := HD2.out; simp [← hnn, hnb] at h; exact h
          have IT : ∀ W', Fr [] W W' → Calls Try.prog 46 #[.agg #[.slice (some ⟨sb, 0, none⟩) f.steps.length f.steps.length, .int .i64 (f.more : Int), .int .i64 (f.op : Int), .int .i64 (f.alu : Int), .int .i64 (f.cc : Int)], .slice (some ⟨g, o, none⟩) n cap] W' fun e w' => e = .returned (.agg #[.int .i64 X.1.op, .int .i64 X.1.a, .int .i64 X.1.b, .int .i64 X.1.alu, .int .i64 X.1.cc, .int .u64 X.1.imm, .int .i64 X.1.disp]) ∧ Fr [] W' w' := fun W' hW' => by
            have hl : (bs.take n).length = n := by simp; omega
            have h := ins_any W' g o cap (bs.take n) (fun i hi => by rw [hl] at hi; simpa using hW'.cell (hbc i (by omega)) (by simp)) (by omega) sb f hf1 (by omega) (by omega) hcap2 (by omega) hf4 hf5
            rw [hl] at h
            rw [hXn]
            exact h
          have HXn := Lib.hid hXn
          have hlen2 : w.heap.size < V.heap.size := Nat.lt_of_lt_of_le (lt_of_heap HR1.out) hVs
          have hnc : (n : Int) ≤ (cap : Int) := by omega
          have hnb2 : (n : Int) ≤ (bs.length : Int) := by omega
          have hnr : ¬ V.heap.size ∈ [w.heap.size] := by simp; omega
          clear hnn hXn hbc hn
          go_wp2_with (go_at_call 45; refine FT.mono ?_; rintro e W2 ⟨rfl, hW2⟩; have x0 := hW2.cell x0 (by simp); have x1 := hW2.cell x1 (by simp); have x2 := hW2.cell x2 (by simp); have x3 := hW2.cell x3 (by simp); have x4 := hW2.cell x4 (by simp))
          have hR2 := (HV.out.trans hW2).heap HR1.out (by simp)
          have HR2 := Lib.hid hR2
          clear hR2
          (first | go_region_with ((go_at_call 46; refine (IT _ (by (repeat' (with_reducible (first | apply Fr.drew | apply Fr.drewN))); exact hW2)).mono ?_; rintro e W3 ⟨rfl, hW3⟩; obtain ⟨y0, y1, y2, y3, y4, y5, y6, yf⟩ := cells7 (hW3.heap HR2.out (by simp)))) | fail)
          all_goals
            go_wp2_with fail
            refine ⟨rfl, ?_⟩
            simp only [results, Try.results23]
            have hx1 : X.2.1 = (n : Int) := by rw [HXn.out]
            have hx2 : X.2.2 = 0 := by rw [HXn.out]
            simp [go_sem, y0, y1, y2, y3, y4, y5, y6, yf, hx1, hx2, Ins.cells]
            repeat' (with_reducible (first | apply Fr.setCell | refine Fr.then0 ?_ hW3 | apply Fr.drew | exact (hfr.then0 HV.out).then0 hW2))
            all_goals (right; simp)
        · go_wp2_with (go_at_call 45; refine FT.mono ?_; rintro e W2 ⟨rfl, hW2⟩; have x0 := hW2.cell x0 (by simp); have x1 := hW2.cell x1 (by simp))
          go_roundw
          case rel => exact ⟨k + 1, 2, _, rfl, by omega, by go_num, rfl, Lib.hid (by have h := HD2.out; simp [hn] at h; exact h.symm), HV.out.trans hW2⟩
          case measure => simp [intOf]; omega
    · obtain rfl : k = 43 := by omega
      have hgo' := hgo.out
      rw [List.drop_eq_nil_of_le (by decide)] at hgo'
      have HG := Lib.hid hgo'
      have hR2 := hV.heap HR1.out (by simp)
      obtain ⟨y0, y1, y2, y3, y4, y5, y6, yf⟩ := cells7 hR2
      clear hgo hgo' hR2
      go_wp2_with fail
      have hXz : X = ({}, 0, z) := HG.out.symm
      subst hXz
      refine ⟨rfl, ?_⟩
      simp only [results, Try.results23]
      simp [go_sem, y0, y1, y2, y3, y4, y5, y6, yf]
      refine ⟨rfl, ?_⟩
      repeat' (with_reducible (first | apply Fr.setCell | exact hfr.then0 hV))
      all_goals (right; simp)
end Go.Proofs.Ytegnmnhdpnmnpaa
