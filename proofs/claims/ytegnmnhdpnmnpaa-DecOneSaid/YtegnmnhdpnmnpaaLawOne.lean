/- The walk of DecOne: what is decoded has those bytes, and no others. -/
import Derived.Deep.RegionHeld3
import Derived.Deep.DeepCutAuto
import Derived.Deep.Light
import Derived.Test.YtegnmnhdpnmnpaaAwake
import Derived.Test.YtegnmnhdpnmnpaaPlain2
namespace Go.Proofs.Ytegnmnhdpnmnpaa
set_option linter.unusedVariables false
set_option linter.unusedSimpArgs false
open Go.RowKit

theorem forms_back (f : Form) (hf : f ∈ FORMS) (bs : List UInt8) (hfit : f.fits bs = true) (hlen : bs.length = f.steps.length + f.more) : Back (f.ins bs) bs := by
  simp only [FORMS, plainForms, oneForms, twoForms, List.cons_append, List.nil_append, List.mem_cons, List.not_mem_nil, or_false] at hf
  rcases hf with rfl | rfl | rfl | rfl | rfl | rfl | rfl | rfl | rfl | rfl | rfl | rfl | rfl | rfl | rfl | rfl | rfl | rfl | rfl | rfl | rfl | rfl | rfl | rfl | rfl | rfl | rfl | rfl | rfl | rfl | rfl | rfl | rfl | rfl | rfl | rfl | rfl | rfl | rfl | rfl | rfl | rfl | rfl
  · exact fb_0 bs hfit hlen
  · exact fb_1 bs hfit hlen
  · exact fb_2 bs hfit hlen
  · exact fb_3 bs hfit hlen
  · exact fb_4 bs hfit hlen
  · exact fb_5 bs hfit hlen
  · exact fb_6 bs hfit hlen
  · exact fb_7 bs hfit hlen
  · exact fb_8 bs hfit hlen
  · exact fb_9 bs hfit hlen
  · exact fb_10 bs hfit hlen
  · exact fb_11 bs hfit hlen
  · exact fb_12 bs hfit hlen
  · exact fb_13 bs hfit hlen
  · exact fb_14 bs hfit hlen
  · exact fb_15 bs hfit hlen
  · exact fb_16 bs hfit hlen
  · exact fb_17 bs hfit hlen
  · exact fb_18 bs hfit hlen
  · exact fb_19 bs hfit hlen
  · exact fb_20 bs hfit hlen
  · exact fb_21 bs hfit hlen
  · exact fb_22 bs hfit hlen
  · exact fb_23 bs hfit hlen
  · exact fb_24 bs hfit hlen
  · exact fb_25 bs hfit hlen
  · exact fb_26 bs hfit hlen
  · exact fb_27 bs hfit hlen
  · exact fb_28 bs hfit hlen
  · exact fb_29 bs hfit hlen
  · exact fb_30 bs hfit hlen
  · exact fb_31 bs hfit hlen
  · exact fb_32 bs hfit hlen
  · exact fb_33 bs hfit hlen
  · exact fb_34 bs hfit hlen
  · exact fb_35 bs hfit hlen
  · exact fb_36 bs hfit hlen
  · exact fb_37 bs hfit hlen
  · exact fb_38 bs hfit hlen
  · exact fb_39 bs hfit hlen
  · exact fb_40 bs hfit hlen
  · exact fb_41 bs hfit hlen
  · exact fb_42 bs hfit hlen

/-- What Decode tells of any bytes. -/
theorem decode_law (bs : List UInt8) : (∃ (x : Ins) (n : Nat), decodeL bs = (x, (n : Int), 0) ∧ Back x (bs.take n) ∧ 1 ≤ n ∧ n ≤ bs.length) ∨ decodeL bs = ({}, 0, 2) ∨ decodeL bs = ({}, 0, 16) := by
  rcases decodeGo_spec bs FORMS 16 with ⟨f, h1, h2, h3, h4⟩ | ⟨h1, h2 | h2, -⟩
  · refine .inl ⟨f.ins (bs.take f.size), f.size, h4, ?_, ?_, h3⟩
    · have hp := forms_pos f h1
      refine forms_back f h1 _ (fits_take h2 _ hp.1) ?_
      rw [List.length_take]; unfold Form.size at *; omega
    · have hp := forms_pos f h1
      unfold Form.size; omega
  · exact .inr (.inr h2)
  · exact .inr (.inl h2)


theorem ByteCells.take {w : World} {a : Option Addr} {bs : List UInt8} (h : ByteCells w a bs) (n : Nat) : ByteCells w a (bs.take n) := by
  rcases h with rfl | ⟨g, o, e, hc⟩
  · exact .inl (by simp)
  · exact .inr ⟨g, o, e, fun i hi => by
      simp only [List.length_take] at hi
      rw [List.getElem_take]
      exact hc i (by omega)⟩

set_option maxRecDepth 100000 in
set_option maxHeartbeats 4000000 in
theorem one_law (w : World) (a : Option Addr) (cap : Nat) (bs : List UInt8) (hb : ByteCells w a bs) (ha : bs ≠ [] → ∀ g o, a = some ⟨g, o, none⟩ → g < w.heap.size) (hna : a = none → bs = []) (hcap : bs.length ≤ cap) (hcap2 : cap ≤ 140737488351232) :
    Calls Try.prog 8 #[.slice a bs.length cap] w fun e w' => e = .returned (.bool true) ∧ Fr [] w w' := by
  by_cases hl : bs.length ≤ 40
  case neg =>
    have hl' : (40 : Int) < (bs.length : Int) := by omega
    go_enter Try.func8, Try.ntmps8
    go_wp2_with (go_at_call 11; refine (awake_any _).mono ?_; rintro e w' ⟨rfl, hf⟩)
    go_ret
    exact ⟨rfl, hf⟩
  have DEC : ∀ W, Fr [] w W → Calls Try.prog 12 #[.slice a bs.length cap] W fun e w' => e = .returned (.tuple #[.agg (decodeL bs).1.cells, .int .i64 (decodeL bs).2.1, .int .i64 (decodeL bs).2.2]) ∧ Fr [] W w' := fun W hW =>
    decode_any W a cap bs (hb.fr hW (by simp)) (fun hn g o e => hW.lt (ha hn g o e)) hcap hcap2
  rcases decode_law bs with ⟨x, n, hd, ⟨hok, henc, hi0, hi1⟩, hn1, hn2⟩ | hz
  case inr =>
    rcases hz with hd | hd
    all_goals
      rw [hd] at DEC
      clear hd
      go_enter Try.func8, Try.ntmps8
      go_wp2_with (first | (go_at_call 12; refine (DEC _ (Fr.refl _ _)).mono ?_; rintro e W1 ⟨rfl, hf1⟩; simp only [Ins.cells]) | (go_at_call 11; refine (awake_any _).mono ?_; rintro e W2 ⟨rfl, hf2⟩))
      go_ret
      exact ⟨rfl, (hf1.alloc _).then0 hf2⟩
  obtain ⟨g, o, rfl, hglt, hcells⟩ := hb.at_ (by omega)
  obtain ⟨op, xa, xb, alu, cc, imm, d⟩ := x
  have hlen : (bs.take n).length = n := by rw [List.length_take]; omega
  have ENC : ∀ W, Calls Try.prog 10 #[.agg #[.int .i64 op, .int .i64 xa, .int .i64 xb, .int .i64 alu, .int .i64 cc, .int .u64 imm, .int .i64 d]] W fun e w' => ∃ a2 cap2, e = .returned (.tuple #[.slice a2 n cap2, .bool true]) ∧ (ByteCells w' a2 (bs.take n) ∧ ∀ g o, a2 = some ⟨g, o, none⟩ → g < w'.heap.size) ∧ Fr [] W w' := fun W => by
    have e := encode_any ⟨op, xa, xb, alu, cc, imm, d⟩ hi0 hi1 W
    rw [if_pos hok, hok, henc] at e
    refine e.mono fun e' w' h => ?_
    obtain ⟨sv, rfl, hown, hf⟩ := h
    obtain ⟨a2, cap2, rfl, _, _, hbc, hg⟩ := hown.form
    rw [hlen]
    exact ⟨a2, cap2, rfl, ⟨hbc, fun g o e => (hg g o e).2.1⟩, hf⟩
  have OKC : ∀ W, Calls Try.prog 13 #[.agg #[.int .i64 op, .int .i64 xa, .int .i64 xb, .int .i64 alu, .int .i64 cc, .int .u64 imm, .int .i64 d]] W fun e w' => e = .returned (.bool true) ∧ Fr [] W w' := fun W => by
    have e := ok_any ⟨op, xa, xb, alu, cc, imm, d⟩ W
    rw [hok] at e
    exact e
  have hbn := hb.take n
  have n1 : (1 : Int) ≤ (n : Int) := by omega
  have n2 : (n : Int) ≤ (bs.length : Int) := by omega
  have n3 : (n : Int) ≤ (cap : Int) := by omega
  have n4 : (cap : Int) ≤ 9223372036854775807 := by omega
  have l1 : (bs.length : Int) ≤ 40 := by omega
  rw [hd] at DEC
  have HB := Lib.hid hbn
  have HLEN := Lib.hid hlen
  clear hd hok henc hi0 hi1 hb hcells hna ha hbn hlen
  go_enter Try.func8, Try.ntmps8
  go_upto_region 4 with (go_at_call 12; refine (DEC _ (Fr.refl _ _)).mono ?_; rintro e W1 ⟨rfl, hf1⟩; simp only [Ins.cells])
  refine wp_world (fun W => Fr [] w W ∧ W.heap[W1.heap.size]? = some (.cells #[.int .i64 op, .int .i64 xa, .int .i64 xb, .int .i64 alu, .int .i64 cc, .int .u64 imm, .int .i64 d] 24 (0, 0))) ⟨hf1.alloc _, heap_new _ _⟩ ?_
  rintro W ⟨hW, hX⟩
  obtain ⟨x0, x1, x2, x3, x4, x5, x6, xf⟩ := cells7 hX
  have HX := Lib.hid hX
  clear hX hf1 DEC
  go_upto_region 7 with (go_at_call 10; refine (ENC _).mono ?_; rintro e W2 ⟨a2, cap2, rfl, hA2, hf2⟩)
  have SH : Hid (∀ V, Fr [] W2 V → (V.cell? ⟨W1.heap.size, 0, none⟩ = some (.int .i64 op) ∧ V.cell? ⟨W1.heap.size, 1, none⟩ = some (.int .i64 xa) ∧ V.cell? ⟨W1.heap.size, 2, none⟩ = some (.int .i64 xb) ∧ V.cell? ⟨W1.heap.size, 3, none⟩ = some (.int .i64 alu) ∧ V.cell? ⟨W1.heap.size, 4, none⟩ = some (.int .i64 cc) ∧ V.cell? ⟨W1.heap.size, 5, none⟩ = some (.int .u64 imm) ∧ V.cell? ⟨W1.heap.size, 6, none⟩ = some (.int .i64 d)) ∧
      (convert 26 9 (.slice a2 n cap2)).run Try.prog V = .ok (.string ⟨(bs.take n).toArray⟩) V ∧ (convert 26 9 (.slice (some ⟨g, o, none⟩) n cap)).run Try.prog V = .ok (.string ⟨(bs.take n).toArray⟩) V) := Lib.hid fun V hV => by
    refine ⟨cells7' (hV.heap (hf2.heap HX.out (by simp)) (by simp)), ?_, ?_⟩
    · have e := str_of (cap := cap2) (hA2.1.fr hV (by simp)) (fun e => by
        subst e
        rcases hA2.1 with h | ⟨g, o, e, _⟩
        · exact h
        · cases e) 26 5 9 Try.underlying26 Try.underlying5 Try.underlying9
      rwa [HLEN.out] at e
    · have e := str_of (cap := cap) (HB.out.fr ((hW.then0 hf2).then0 hV) (by simp)) (fun e => by cases e) 26 5 9 Try.underlying26 Try.underlying5 Try.underlying9
      rwa [HLEN.out] at e
  have HF := Lib.hid (hW.then0 hf2)
  clear x0 x1 x2 x3 x4 x5 x6 xf hA2 hW hf2 HX HB HLEN ENC
  (first | go_region_held3 (fun V => (V.cell? ⟨W1.heap.size, 0, none⟩ = some (.int .i64 op) ∧ V.cell? ⟨W1.heap.size, 1, none⟩ = some (.int .i64 xa) ∧ V.cell? ⟨W1.heap.size, 2, none⟩ = some (.int .i64 xb) ∧ V.cell? ⟨W1.heap.size, 3, none⟩ = some (.int .i64 alu) ∧ V.cell? ⟨W1.heap.size, 4, none⟩ = some (.int .i64 cc) ∧ V.cell? ⟨W1.heap.size, 5, none⟩ = some (.int .u64 imm) ∧ V.cell? ⟨W1.heap.size, 6, none⟩ = some (.int .i64 d)) ∧
      (convert 26 9 (.slice a2 n cap2)).run Try.prog V = .ok (.string ⟨(bs.take n).toArray⟩) V ∧ (convert 26 9 (.slice (some ⟨g, o, none⟩) n cap)).run Try.prog V = .ok (.string ⟨(bs.take n).toArray⟩) V)
    (first | exact SH.out _ (Fr.refl _ _).drew | exact SH.out _ ((Fr.refl _ _).drew.then0 hf3) | exact SH.out _ (((Fr.refl _ _).drew.then0 hf3).then0 hf4))
    (first | (go_at_call 13; refine (OKC _).mono ?_; rintro e W3 ⟨rfl, hf3⟩) | (go_at_call 11; refine (awake_any _).mono ?_; rintro e W4 ⟨rfl, hf4⟩)) | fail)
  all_goals
    go_wp2_with fail
    go_ret
    exact ⟨rfl, ((HF.out.drew).then0 hf3).then0 hf4⟩
end Go.Proofs.Ytegnmnhdpnmnpaa
