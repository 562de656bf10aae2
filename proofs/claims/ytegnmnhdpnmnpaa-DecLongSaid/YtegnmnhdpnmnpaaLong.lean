/- The walk of DecLong: how many bytes an instruction has. -/
import Derived.Deep.DeepCutAuto
import Derived.Test.YtegnmnhdpnmnpaaLaw
import Derived.Test.YtegnmnhdpnmnpaaTame
namespace Go.Proofs.Ytegnmnhdpnmnpaa
set_option linter.unusedVariables false
set_option linter.unusedSimpArgs false
open Go.RowKit

/-- What Encode tells of an instruction that may be: only how many bytes. -/
theorem enc_len (x : Ins) (hok : okB x = true) (hi0 : 0 ≤ x.imm) (hi1 : x.imm < 18446744073709551616) (n : Nat) (hn : (encL x).length = n) (W : World) :
    Calls Try.prog 10 #[.agg #[.int .i64 x.op, .int .i64 x.a, .int .i64 x.b, .int .i64 x.alu, .int .i64 x.cc, .int .u64 x.imm, .int .i64 x.disp]] W fun e w' => ∃ a2 cap2, e = .returned (.tuple #[.slice a2 n cap2, .bool true]) ∧ Fr [] W w' := by
  have e := encode_any x hi0 hi1 W
  rw [if_pos hok, hok] at e
  refine e.mono fun e' w' h => ?_
  obtain ⟨sv, rfl, hown, hf⟩ := h
  obtain ⟨a2, cap2, rfl, -⟩ := hown.form
  rw [hn]
  exact ⟨a2, cap2, rfl, hf⟩

set_option maxRecDepth 100000 in
set_option maxHeartbeats 4000000 in
theorem long_law (op a b alu cc imm d : Int) (hi0 : 0 ≤ imm) (hi1 : imm < 18446744073709551616) (w : World) :
    Calls Try.prog 3 #[.agg #[.int .i64 op, .int .i64 a, .int .i64 b, .int .i64 alu, .int .i64 cc, .int .u64 imm, .int .i64 d]] w fun e w' => e = .returned (.bool true) ∧ Fr [] w w' := by
  have TM := fun W => tame_any op a b alu cc imm d hi0 hi1 W
  clear hi0 hi1
  go_enter Try.func3, Try.ntmps3
  go_upto_region 2 with (go_at_call 9; refine (TM _).mono ?_; rintro e W1 ⟨⟨xo, xa, xb, xl, xc, xi, xd⟩, rfl, hok, hx0, hx1, hf1⟩; have HOK := Lib.hid (And.intro hok (And.intro hx0 hx1)); clear hok hx0 hx1; simp only [Ins.row])
  refine wp_world (fun W => Fr [] w W ∧ W.heap[W1.heap.size]? = some (.cells #[.int .i64 xo, .int .i64 xa, .int .i64 xb, .int .i64 xl, .int .i64 xc, .int .u64 xi, .int .i64 xd] 24 (0, 0))) ⟨(((Fr.refl [] w).alloc _).then0 hf1).alloc _, heap_new _ _⟩ ?_
  rintro W ⟨hW, hX⟩
  clear hf1 TM
  obtain ⟨⟨ho1, ho2⟩, -, -, -, -⟩ := okB_facts HOK.out.1
  obtain ⟨x0, x1, x2, x3, x4, x5, x6, xf⟩ := cells7 hX
  have HW := Lib.hid hW
  have hlt := lt_of_heap hX
  clear hX hW
  have hops : xo = 1 ∨ xo = 2 ∨ xo = 3 ∨ xo = 4 ∨ xo = 5 ∨ xo = 6 ∨ xo = 7 ∨ xo = 8 ∨ xo = 9 ∨ xo = 10 ∨ xo = 11 ∨ xo = 12 ∨ xo = 13 ∨ xo = 14 ∨ xo = 15 ∨ xo = 16 ∨ xo = 17 ∨ xo = 18 ∨ xo = 19 ∨ xo = 20 ∨ xo = 21 ∨ xo = 22 ∨ xo = 23 := by omega
  rcases hops with rfl | rfl | rfl | rfl | rfl | rfl | rfl | rfl | rfl | rfl | rfl | rfl | rfl | rfl | rfl | rfl | rfl | rfl | rfl | rfl | rfl | rfl | rfl
  · have ENC := enc_len ⟨1, xa, xb, xl, xc, xi, xd⟩ HOK.out.1 HOK.out.2.1 HOK.out.2.2 1 (by simp [encL, aheadL, leB_length])
    simp only at ENC
    clear HOK
    go_wp2_with (first | (go_at_call 10; refine (ENC _).mono ?_; rintro e W2 ⟨a2, cap2, rfl, hf2⟩; have y0 := hf2.cell x0 (by simp); have y1 := hf2.cell x1 (by simp); have hlt2 := hf2.lt hlt) | (go_at_call 11; refine (awake_any _).mono ?_; rintro e W3 ⟨rfl, hf3⟩))
    go_ret
    exact ⟨rfl, ((HW.out.then0 hf2).alloc _).then0 hf3⟩
  · have ENC := enc_len ⟨2, xa, xb, xl, xc, xi, xd⟩ HOK.out.1 HOK.out.2.1 HOK.out.2.2 1 (by simp [encL, aheadL, leB_length])
    simp only at ENC
    clear HOK
    go_wp2_with (first | (go_at_call 10; refine (ENC _).mono ?_; rintro e W2 ⟨a2, cap2, rfl, hf2⟩; have y0 := hf2.cell x0 (by simp); have y1 := hf2.cell x1 (by simp); have hlt2 := hf2.lt hlt) | (go_at_call 11; refine (awake_any _).mono ?_; rintro e W3 ⟨rfl, hf3⟩))
    go_ret
    exact ⟨rfl, ((HW.out.then0 hf2).alloc _).then0 hf3⟩
  · by_cases h7 : 7 < xa
    · have ENC := enc_len ⟨3, xa, xb, xl, xc, xi, xd⟩ HOK.out.1 HOK.out.2.1 HOK.out.2.2 2 (by simp [encL, aheadL, leB_length, h7])
      simp only at ENC
      clear HOK
      go_wp2_with (first | (go_at_call 10; refine (ENC _).mono ?_; rintro e W2 ⟨a2, cap2, rfl, hf2⟩; have y0 := hf2.cell x0 (by simp); have y1 := hf2.cell x1 (by simp); have hlt2 := hf2.lt hlt) | (go_at_call 11; refine (awake_any _).mono ?_; rintro e W3 ⟨rfl, hf3⟩))
      go_ret
      exact ⟨rfl, ((HW.out.then0 hf2).alloc _).then0 hf3⟩
    · have ENC := enc_len ⟨3, xa, xb, xl, xc, xi, xd⟩ HOK.out.1 HOK.out.2.1 HOK.out.2.2 1 (by simp [encL, aheadL, leB_length, h7])
      simp only at ENC
      clear HOK
      go_wp2_with (first | (go_at_call 10; refine (ENC _).mono ?_; rintro e W2 ⟨a2, cap2, rfl, hf2⟩; have y0 := hf2.cell x0 (by simp); have y1 := hf2.cell x1 (by simp); have hlt2 := hf2.lt hlt) | (go_at_call 11; refine (awake_any _).mono ?_; rintro e W3 ⟨rfl, hf3⟩))
      go_ret
      exact ⟨rfl, ((HW.out.then0 hf2).alloc _).then0 hf3⟩
  · by_cases h7 : 7 < xa
    · have ENC := enc_len ⟨4, xa, xb, xl, xc, xi, xd⟩ HOK.out.1 HOK.out.2.1 HOK.out.2.2 2 (by simp [encL, aheadL, leB_length, h7])
      simp only at ENC
      clear HOK
      go_wp2_with (first | (go_at_call 10; refine (ENC _).mono ?_; rintro e W2 ⟨a2, cap2, rfl, hf2⟩; have y0 := hf2.cell x0 (by simp); have y1 := hf2.cell x1 (by simp); have hlt2 := hf2.lt hlt) | (go_at_call 11; refine (awake_any _).mono ?_; rintro e W3 ⟨rfl, hf3⟩))
      go_ret
      exact ⟨rfl, ((HW.out.then0 hf2).alloc _).then0 hf3⟩
    · have ENC := enc_len ⟨4, xa, xb, xl, xc, xi, xd⟩ HOK.out.1 HOK.out.2.1 HOK.out.2.2 1 (by simp [encL, aheadL, leB_length, h7])
      simp only at ENC
      clear HOK
      go_wp2_with (first | (go_at_call 10; refine (ENC _).mono ?_; rintro e W2 ⟨a2, cap2, rfl, hf2⟩; have y0 := hf2.cell x0 (by simp); have y1 := hf2.cell x1 (by simp); have hlt2 := hf2.lt hlt) | (go_at_call 11; refine (awake_any _).mono ?_; rintro e W3 ⟨rfl, hf3⟩))
      go_ret
      exact ⟨rfl, ((HW.out.then0 hf2).alloc _).then0 hf3⟩
  · have ENC := enc_len ⟨5, xa, xb, xl, xc, xi, xd⟩ HOK.out.1 HOK.out.2.1 HOK.out.2.2 10 (by simp [encL, aheadL, leB_length])
    simp only at ENC
    clear HOK
    go_wp2_with (first | (go_at_call 10; refine (ENC _).mono ?_; rintro e W2 ⟨a2, cap2, rfl, hf2⟩; have y0 := hf2.cell x0 (by simp); have y1 := hf2.cell x1 (by simp); have hlt2 := hf2.lt hlt) | (go_at_call 11; refine (awake_any _).mono ?_; rintro e W3 ⟨rfl, hf3⟩))
    go_ret
    exact ⟨rfl, ((HW.out.then0 hf2).alloc _).then0 hf3⟩
  · by_cases h7 : 7 < xa
    · have ENC := enc_len ⟨6, xa, xb, xl, xc, xi, xd⟩ HOK.out.1 HOK.out.2.1 HOK.out.2.2 6 (by simp [encL, aheadL, leB_length, h7])
      simp only at ENC
      clear HOK
      go_wp2_with (first | (go_at_call 10; refine (ENC _).mono ?_; rintro e W2 ⟨a2, cap2, rfl, hf2⟩; have y0 := hf2.cell x0 (by simp); have y1 := hf2.cell x1 (by simp); have hlt2 := hf2.lt hlt) | (go_at_call 11; refine (awake_any _).mono ?_; rintro e W3 ⟨rfl, hf3⟩))
      go_ret
      exact ⟨rfl, ((HW.out.then0 hf2).alloc _).then0 hf3⟩
    · have ENC := enc_len ⟨6, xa, xb, xl, xc, xi, xd⟩ HOK.out.1 HOK.out.2.1 HOK.out.2.2 5 (by simp [encL, aheadL, leB_length, h7])
      simp only at ENC
      clear HOK
      go_wp2_with (first | (go_at_call 10; refine (ENC _).mono ?_; rintro e W2 ⟨a2, cap2, rfl, hf2⟩; have y0 := hf2.cell x0 (by simp); have y1 := hf2.cell x1 (by simp); have hlt2 := hf2.lt hlt) | (go_at_call 11; refine (awake_any _).mono ?_; rintro e W3 ⟨rfl, hf3⟩))
      go_ret
      exact ⟨rfl, ((HW.out.then0 hf2).alloc _).then0 hf3⟩
  · have ENC := enc_len ⟨7, xa, xb, xl, xc, xi, xd⟩ HOK.out.1 HOK.out.2.1 HOK.out.2.2 3 (by simp [encL, aheadL, leB_length])
    simp only at ENC
    clear HOK
    go_wp2_with (first | (go_at_call 10; refine (ENC _).mono ?_; rintro e W2 ⟨a2, cap2, rfl, hf2⟩; have y0 := hf2.cell x0 (by simp); have y1 := hf2.cell x1 (by simp); have hlt2 := hf2.lt hlt) | (go_at_call 11; refine (awake_any _).mono ?_; rintro e W3 ⟨rfl, hf3⟩))
    go_ret
    exact ⟨rfl, ((HW.out.then0 hf2).alloc _).then0 hf3⟩
  · have ENC := enc_len ⟨8, xa, xb, xl, xc, xi, xd⟩ HOK.out.1 HOK.out.2.1 HOK.out.2.2 3 (by simp [encL, aheadL, leB_length])
    simp only at ENC
    clear HOK
    go_wp2_with (first | (go_at_call 10; refine (ENC _).mono ?_; rintro e W2 ⟨a2, cap2, rfl, hf2⟩; have y0 := hf2.cell x0 (by simp); have y1 := hf2.cell x1 (by simp); have hlt2 := hf2.lt hlt) | (go_at_call 11; refine (awake_any _).mono ?_; rintro e W3 ⟨rfl, hf3⟩))
    go_ret
    exact ⟨rfl, ((HW.out.then0 hf2).alloc _).then0 hf3⟩
  · have ENC := enc_len ⟨9, xa, xb, xl, xc, xi, xd⟩ HOK.out.1 HOK.out.2.1 HOK.out.2.2 7 (by simp [encL, aheadL, leB_length])
    simp only at ENC
    clear HOK
    go_wp2_with (first | (go_at_call 10; refine (ENC _).mono ?_; rintro e W2 ⟨a2, cap2, rfl, hf2⟩; have y0 := hf2.cell x0 (by simp); have y1 := hf2.cell x1 (by simp); have hlt2 := hf2.lt hlt) | (go_at_call 11; refine (awake_any _).mono ?_; rintro e W3 ⟨rfl, hf3⟩))
    go_ret
    exact ⟨rfl, ((HW.out.then0 hf2).alloc _).then0 hf3⟩
  · have ENC := enc_len ⟨10, xa, xb, xl, xc, xi, xd⟩ HOK.out.1 HOK.out.2.1 HOK.out.2.2 7 (by simp [encL, aheadL, leB_length])
    simp only at ENC
    clear HOK
    go_wp2_with (first | (go_at_call 10; refine (ENC _).mono ?_; rintro e W2 ⟨a2, cap2, rfl, hf2⟩; have y0 := hf2.cell x0 (by simp); have y1 := hf2.cell x1 (by simp); have hlt2 := hf2.lt hlt) | (go_at_call 11; refine (awake_any _).mono ?_; rintro e W3 ⟨rfl, hf3⟩))
    go_ret
    exact ⟨rfl, ((HW.out.then0 hf2).alloc _).then0 hf3⟩
  · have ENC := enc_len ⟨11, xa, xb, xl, xc, xi, xd⟩ HOK.out.1 HOK.out.2.1 HOK.out.2.2 7 (by simp [encL, aheadL, leB_length])
    simp only at ENC
    clear HOK
    go_wp2_with (first | (go_at_call 10; refine (ENC _).mono ?_; rintro e W2 ⟨a2, cap2, rfl, hf2⟩; have y0 := hf2.cell x0 (by simp); have y1 := hf2.cell x1 (by simp); have hlt2 := hf2.lt hlt) | (go_at_call 11; refine (awake_any _).mono ?_; rintro e W3 ⟨rfl, hf3⟩))
    go_ret
    exact ⟨rfl, ((HW.out.then0 hf2).alloc _).then0 hf3⟩
  · have ENC := enc_len ⟨12, xa, xb, xl, xc, xi, xd⟩ HOK.out.1 HOK.out.2.1 HOK.out.2.2 7 (by simp [encL, aheadL, leB_length])
    simp only at ENC
    clear HOK
    go_wp2_with (first | (go_at_call 10; refine (ENC _).mono ?_; rintro e W2 ⟨a2, cap2, rfl, hf2⟩; have y0 := hf2.cell x0 (by simp); have y1 := hf2.cell x1 (by simp); have hlt2 := hf2.lt hlt) | (go_at_call 11; refine (awake_any _).mono ?_; rintro e W3 ⟨rfl, hf3⟩))
    go_ret
    exact ⟨rfl, ((HW.out.then0 hf2).alloc _).then0 hf3⟩
  · have ENC := enc_len ⟨13, xa, xb, xl, xc, xi, xd⟩ HOK.out.1 HOK.out.2.1 HOK.out.2.2 7 (by simp [encL, aheadL, leB_length])
    simp only at ENC
    clear HOK
    go_wp2_with (first | (go_at_call 10; refine (ENC _).mono ?_; rintro e W2 ⟨a2, cap2, rfl, hf2⟩; have y0 := hf2.cell x0 (by simp); have y1 := hf2.cell x1 (by simp); have hlt2 := hf2.lt hlt) | (go_at_call 11; refine (awake_any _).mono ?_; rintro e W3 ⟨rfl, hf3⟩))
    go_ret
    exact ⟨rfl, ((HW.out.then0 hf2).alloc _).then0 hf3⟩
  · have ENC := enc_len ⟨14, xa, xb, xl, xc, xi, xd⟩ HOK.out.1 HOK.out.2.1 HOK.out.2.2 4 (by simp [encL, aheadL, leB_length])
    simp only at ENC
    clear HOK
    go_wp2_with (first | (go_at_call 10; refine (ENC _).mono ?_; rintro e W2 ⟨a2, cap2, rfl, hf2⟩; have y0 := hf2.cell x0 (by simp); have y1 := hf2.cell x1 (by simp); have hlt2 := hf2.lt hlt) | (go_at_call 11; refine (awake_any _).mono ?_; rintro e W3 ⟨rfl, hf3⟩))
    go_ret
    exact ⟨rfl, ((HW.out.then0 hf2).alloc _).then0 hf3⟩
  · have ENC := enc_len ⟨15, xa, xb, xl, xc, xi, xd⟩ HOK.out.1 HOK.out.2.1 HOK.out.2.2 3 (by simp [encL, aheadL, leB_length])
    simp only at ENC
    clear HOK
    go_wp2_with (first | (go_at_call 10; refine (ENC _).mono ?_; rintro e W2 ⟨a2, cap2, rfl, hf2⟩; have y0 := hf2.cell x0 (by simp); have y1 := hf2.cell x1 (by simp); have hlt2 := hf2.lt hlt) | (go_at_call 11; refine (awake_any _).mono ?_; rintro e W3 ⟨rfl, hf3⟩))
    go_ret
    exact ⟨rfl, ((HW.out.then0 hf2).alloc _).then0 hf3⟩
  · have ENC := enc_len ⟨16, xa, xb, xl, xc, xi, xd⟩ HOK.out.1 HOK.out.2.1 HOK.out.2.2 4 (by simp [encL, aheadL, leB_length])
    simp only at ENC
    clear HOK
    go_wp2_with (first | (go_at_call 10; refine (ENC _).mono ?_; rintro e W2 ⟨a2, cap2, rfl, hf2⟩; have y0 := hf2.cell x0 (by simp); have y1 := hf2.cell x1 (by simp); have hlt2 := hf2.lt hlt) | (go_at_call 11; refine (awake_any _).mono ?_; rintro e W3 ⟨rfl, hf3⟩))
    go_ret
    exact ⟨rfl, ((HW.out.then0 hf2).alloc _).then0 hf3⟩
  · have ENC := enc_len ⟨17, xa, xb, xl, xc, xi, xd⟩ HOK.out.1 HOK.out.2.1 HOK.out.2.2 5 (by simp [encL, aheadL, leB_length])
    simp only at ENC
    clear HOK
    go_wp2_with (first | (go_at_call 10; refine (ENC _).mono ?_; rintro e W2 ⟨a2, cap2, rfl, hf2⟩; have y0 := hf2.cell x0 (by simp); have y1 := hf2.cell x1 (by simp); have hlt2 := hf2.lt hlt) | (go_at_call 11; refine (awake_any _).mono ?_; rintro e W3 ⟨rfl, hf3⟩))
    go_ret
    exact ⟨rfl, ((HW.out.then0 hf2).alloc _).then0 hf3⟩
  · have ENC := enc_len ⟨18, xa, xb, xl, xc, xi, xd⟩ HOK.out.1 HOK.out.2.1 HOK.out.2.2 5 (by simp [encL, aheadL, leB_length])
    simp only at ENC
    clear HOK
    go_wp2_with (first | (go_at_call 10; refine (ENC _).mono ?_; rintro e W2 ⟨a2, cap2, rfl, hf2⟩; have y0 := hf2.cell x0 (by simp); have y1 := hf2.cell x1 (by simp); have hlt2 := hf2.lt hlt) | (go_at_call 11; refine (awake_any _).mono ?_; rintro e W3 ⟨rfl, hf3⟩))
    go_ret
    exact ⟨rfl, ((HW.out.then0 hf2).alloc _).then0 hf3⟩
  · have ENC := enc_len ⟨19, xa, xb, xl, xc, xi, xd⟩ HOK.out.1 HOK.out.2.1 HOK.out.2.2 2 (by simp [encL, aheadL, leB_length])
    simp only at ENC
    clear HOK
    go_wp2_with (first | (go_at_call 10; refine (ENC _).mono ?_; rintro e W2 ⟨a2, cap2, rfl, hf2⟩; have y0 := hf2.cell x0 (by simp); have y1 := hf2.cell x1 (by simp); have hlt2 := hf2.lt hlt) | (go_at_call 11; refine (awake_any _).mono ?_; rintro e W3 ⟨rfl, hf3⟩))
    go_ret
    exact ⟨rfl, ((HW.out.then0 hf2).alloc _).then0 hf3⟩
  · have ENC := enc_len ⟨20, xa, xb, xl, xc, xi, xd⟩ HOK.out.1 HOK.out.2.1 HOK.out.2.2 2 (by simp [encL, aheadL, leB_length])
    simp only at ENC
    clear HOK
    go_wp2_with (first | (go_at_call 10; refine (ENC _).mono ?_; rintro e W2 ⟨a2, cap2, rfl, hf2⟩; have y0 := hf2.cell x0 (by simp); have y1 := hf2.cell x1 (by simp); have hlt2 := hf2.lt hlt) | (go_at_call 11; refine (awake_any _).mono ?_; rintro e W3 ⟨rfl, hf3⟩))
    go_ret
    exact ⟨rfl, ((HW.out.then0 hf2).alloc _).then0 hf3⟩
  · have ENC := enc_len ⟨21, xa, xb, xl, xc, xi, xd⟩ HOK.out.1 HOK.out.2.1 HOK.out.2.2 6 (by simp [encL, aheadL, leB_length])
    simp only at ENC
    clear HOK
    go_wp2_with (first | (go_at_call 10; refine (ENC _).mono ?_; rintro e W2 ⟨a2, cap2, rfl, hf2⟩; have y0 := hf2.cell x0 (by simp); have y1 := hf2.cell x1 (by simp); have hlt2 := hf2.lt hlt) | (go_at_call 11; refine (awake_any _).mono ?_; rintro e W3 ⟨rfl, hf3⟩))
    go_ret
    exact ⟨rfl, ((HW.out.then0 hf2).alloc _).then0 hf3⟩
  · have ENC := enc_len ⟨22, xa, xb, xl, xc, xi, xd⟩ HOK.out.1 HOK.out.2.1 HOK.out.2.2 6 (by simp [encL, aheadL, leB_length])
    simp only at ENC
    clear HOK
    go_wp2_with (first | (go_at_call 10; refine (ENC _).mono ?_; rintro e W2 ⟨a2, cap2, rfl, hf2⟩; have y0 := hf2.cell x0 (by simp); have y1 := hf2.cell x1 (by simp); have hlt2 := hf2.lt hlt) | (go_at_call 11; refine (awake_any _).mono ?_; rintro e W3 ⟨rfl, hf3⟩))
    go_ret
    exact ⟨rfl, ((HW.out.then0 hf2).alloc _).then0 hf3⟩
  · have ENC := enc_len ⟨23, xa, xb, xl, xc, xi, xd⟩ HOK.out.1 HOK.out.2.1 HOK.out.2.2 2 (by simp [encL, aheadL, leB_length])
    simp only at ENC
    clear HOK
    go_wp2_with (first | (go_at_call 10; refine (ENC _).mono ?_; rintro e W2 ⟨a2, cap2, rfl, hf2⟩; have y0 := hf2.cell x0 (by simp); have y1 := hf2.cell x1 (by simp); have hlt2 := hf2.lt hlt) | (go_at_call 11; refine (awake_any _).mono ?_; rintro e W3 ⟨rfl, hf3⟩))
    go_ret
    exact ⟨rfl, ((HW.out.then0 hf2).alloc _).then0 hf3⟩
end Go.Proofs.Ytegnmnhdpnmnpaa
