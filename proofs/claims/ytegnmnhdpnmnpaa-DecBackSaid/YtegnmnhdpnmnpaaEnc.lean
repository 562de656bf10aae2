/- dec's small functions that Encode calls: rex, ahead, mod, disp, of; an append of bytes. -/
import Derived.Deep.AppendLies
import Derived.Test.YtegnmnhdpnmnpaaOk2
import Derived.Test.YtegnmnhdpnmnpaaEncSpec
namespace Go.Proofs.Ytegnmnhdpnmnpaa
set_option linter.unusedVariables false
set_option linter.unusedSimpArgs false
open Go.RowKit

theorem leL_leB (n : Nat) : ∀ v : Int, 0 ≤ v → leL v.toNat n = leB v n := by
  induction n with
  | zero => intro v _; rfl
  | succ n ih =>
    intro v h0
    have h1 := ih (v / 256) (by omega)
    simp only [leB]
    rw [← h1]
    simp only [leL, List.range_succ_eq_map, List.map_cons, List.map_map]
    congr 1
    · apply UInt8.toNat_inj.1
      have := ub_val v
      simp
      omega
    · apply List.map_congr_left
      intro i _
      simp only [Function.comp]
      congr 1
      rw [Nat.pow_succ', ← Nat.div_div_eq_div_mul]
      congr 1
      omega

/-- What a call has made: a slice of some bytes, in new memory. -/
structure Made (w w' : World) (g cp : Nat) (bs : List UInt8) : Prop where
  cells : ∀ i (h : i < bs.length), w'.cell? ⟨g, 0 + i, none⟩ = some (.int .u8 (bs[i].toNat : Int))
  le : bs.length ≤ cp
  cap : cp ≤ maxLen
  lo : w.heap.size ≤ g
  fr : Fr [] w w'

theorem rex_any (a b : Int) (w : World) : Calls Try.prog 19 #[.int .i64 a, .int .i64 b] w fun e w' => e = .returned (.int .u8 (rexI a b)) ∧ w = w' := by
  unfold rexI
  go_enter Try.func19, Try.ntmps19
  go_wp2
  all_goals (go_ret; exact ⟨by simp_all, rfl⟩)

theorem ahead_any (a : Int) (w : World) : Calls Try.prog 18 #[.int .i64 a] w fun e w' => ∃ sv, e = .returned sv ∧ OwnB w.heap.size w' sv (aheadL a) ∧ Fr [] w w' := by
  by_cases h : 7 < a
  · have e : aheadL a = [65] := by simp [aheadL, h]
    rw [e]
    clear e
    go_enter Try.func18, Try.ntmps18
    go_wp2
    go_ret
    exact ⟨_, rfl, OwnB.lit [65] (heap_new _ _) (by simp [byteVal]) (Nat.le_refl _) (by decide), (Fr.refl [] w).alloc _⟩
  · have e : aheadL a = [] := by simp [aheadL, h]
    rw [e]
    clear e
    go_enter Try.func18, Try.ntmps18
    go_wp2
    go_ret
    exact ⟨_, rfl, OwnB.nil _ _, Fr.refl _ _⟩

/-- A register's three lowest bits. -/
theorem and7 (r : Int) (h0 : 0 ≤ r) (h1 : r ≤ 15) : bits .and .i64 r 7 = r % 8 := by
  obtain ⟨n, rfl⟩ := Int.eq_ofNat_of_zero_le h0
  exact bits_and7 .i64 n (by omega) rfl

theorem mod_any (bg a b : Int) (hb : bg = 0 ∨ bg = 128 ∨ bg = 192) (ha0 : 0 ≤ a) (ha : a ≤ 15) (hb0 : 0 ≤ b) (hb1 : b ≤ 15) (w : World) :
    Calls Try.prog 41 #[.int .i64 bg, .int .i64 a, .int .i64 b] w fun e w' => e = .returned (.int .u8 (bg + 8 * (a % 8) + b % 8)) ∧ w = w' := by
  have e1 := and7 a ha0 ha
  have e2 := and7 b hb0 hb1
  obtain ⟨p, hp⟩ : ∃ p, a % 8 = p := ⟨_, rfl⟩
  obtain ⟨q, hq⟩ : ∃ q, b % 8 = q := ⟨_, rfl⟩
  rw [hp] at e1 ⊢
  rw [hq] at e2 ⊢
  have p0 : 0 ≤ p := by omega
  have p1 : p ≤ 7 := by omega
  have q0 : 0 ≤ q := by omega
  have q1 : q ≤ 7 := by omega
  clear hp hq ha0 ha hb0 hb1
  rcases hb with rfl | rfl | rfl
  all_goals
    go_enter Try.func41, Try.ntmps41
    go_wp2
    go_ret
    exact ⟨by simp, rfl⟩

theorem of_any (w : World) (g gc : Nat) (ops : List Int) (hl : ops.length ≤ 100) (alu : Int) (hc : IntCells w g ops) (k : Nat) (hk : idxL ops alu = k) (lc : Nat) (hkl : k < lc) (c : Int) (hcc : w.cell? ⟨gc, k, none⟩ = some (.int .u8 c)) :
    Calls Try.prog 21 #[.slice (some ⟨g, 0, none⟩) ops.length ops.length, .slice (some ⟨gc, 0, none⟩) lc lc, .int .i64 alu] w fun e w' => e = .returned (.int .u8 c) ∧ w = w' := by
  have IX : Calls Try.prog 40 #[.slice (some ⟨g, 0, none⟩) ops.length ops.length, .int .i64 alu] w fun e w' => e = .returned (.int .i64 (k : Int)) ∧ w = w' := by
    rw [← hk]; exact index_any w g ops.length ops hl alu hc
  clear hk hc
  have k0 : (0 : Int) ≤ (k : Int) := by omega
  have k1 : (k : Int) < (lc : Int) := by omega
  go_enter Try.func21, Try.ntmps21
  go_wp2_with (go_at_call 40; refine IX.mono ?_; rintro e w' ⟨rfl, rfl⟩)
  go_ret
  exact ⟨rfl, rfl⟩

theorem Made.of_own {w w' : World} {sv : Value} {bs : List UInt8} (h : OwnB w.heap.size w' sv bs) (hf : Fr [] w w') (hn : 0 < bs.length) : ∃ g cp, sv = .slice (some ⟨g, 0, none⟩) bs.length cp ∧ Made w w' g cp bs := by
  obtain ⟨a, cp, rfl, hle, hcm, hbc, hg⟩ := h.form
  obtain ⟨g, o, rfl, hlt, hc⟩ := hbc.at_ hn
  obtain ⟨h1, h2, rfl⟩ := hg g o rfl
  exact ⟨g, cp, rfl, hc, hle, hcm, h1, hf⟩

theorem le_any (v : Int) (h0 : 0 ≤ v) (h1 : v < 18446744073709551616) (n : Nat) (hn : n ≤ 8) (hn0 : 0 < n) (w : World) :
    Calls Try.prog 20 #[.int .u64 v, .int .i64 n] w fun e w' => ∃ g cp, e = .returned (.slice (some ⟨g, 0, none⟩) n cp) ∧ Made w w' g cp (leB v n) := by
  refine (bytes_any v h0 h1 n hn w).mono fun e w' h => ?_
  obtain ⟨sv, rfl, hown, hf⟩ := h
  rw [leL_leB n v h0] at hown
  obtain ⟨g, cp, rfl, hm⟩ := Made.of_own hown hf (by rw [leB_length]; exact hn0)
  rw [leB_length]
  exact ⟨g, cp, rfl, hm⟩

theorem wrap_u64 (d : Int) : IntKind.u64.wrap d = d % 18446744073709551616 := by
  unfold IntKind.wrap
  simp only [IntKind.bits, IntKind.signed, Bool.false_and]
  simp
theorem ub_congr {u v : Int} (h : u % 256 = v % 256) : ub u = ub v := by unfold ub; rw [h]
theorem leB_mod4 (d : Int) : leB (d % 18446744073709551616) 4 = leB d 4 := by
  simp only [leB]
  rw [ub_congr (show d % 18446744073709551616 % 256 = d % 256 by omega), ub_congr (show d % 18446744073709551616 / 256 % 256 = d / 256 % 256 by omega),
    ub_congr (show d % 18446744073709551616 / 256 / 256 % 256 = d / 256 / 256 % 256 by omega), ub_congr (show d % 18446744073709551616 / 256 / 256 / 256 % 256 = d / 256 / 256 / 256 % 256 by omega)]

theorem disp_any (op a b alu cc imm d : Int) (w : World) :
    Calls Try.prog 42 #[.agg #[.int .i64 op, .int .i64 a, .int .i64 b, .int .i64 alu, .int .i64 cc, .int .u64 imm, .int .i64 d]] w fun e w' => ∃ g cp, e = .returned (.slice (some ⟨g, 0, none⟩) 4 cp) ∧ Made w w' g cp (leB d 4) := by
  have L : ∀ W, Calls Try.prog 20 #[.int .u64 (IntKind.u64.wrap d), .int .i64 4] W fun e w' => ∃ g cp, e = .returned (.slice (some ⟨g, 0, none⟩) 4 cp) ∧ Made W w' g cp (leB d 4) := fun W => by
    rw [wrap_u64, ← leB_mod4 d]
    exact le_any _ (by omega) (by omega) 4 (by omega) (by omega) W
  obtain ⟨z, hz⟩ : ∃ z, IntKind.u64.wrap d = z := ⟨_, rfl⟩
  rw [hz] at L
  go_enter Try.func42, Try.ntmps42
  go_wp2_with (go_at_call 20; refine (L _).mono ?_; rintro e w' ⟨g, cp, rfl, hm⟩)
  go_ret
  exact ⟨g, cp, rfl, hm.cells, hm.le, hm.cap, by have := hm.lo; simp at this; omega, ((Fr.refl [] w).alloc _).then0 hm.fr⟩

/-- An append of bytes that a call has made. -/
theorem wpList_append_bytes {ops : Array Oper} {rest : List Oper} {o : Oper} {a : Act} {w : World} {Q : Exit → Act → World → Prop} (hgd : o.guard = none) (s x : Operand)
    (ho : o.op = .call { callee := .builtin .append, args := #[s, x], argTypes := #[26, 26] })
    (base : Nat) (v : Value) (bs : List UInt8) (hs : a.eval s = v) (hown : OwnB base w v bs) (g m c : Nat) (b2 : List UInt8) (hx : a.eval x = .slice (some ⟨g, 0, none⟩) m c) (hm : m = b2.length)
    (hc : ∀ i (h : i < b2.length), w.cell? ⟨g, 0 + i, none⟩ = some (.int .u8 (b2[i].toNat : Int))) (hlen : bs.length + b2.length ≤ 1000000000) (hbase : base ≤ w.heap.size)
    (h : ∀ v' w', OwnB base w' v' (bs ++ b2) → w.grownBy w' v.ownBlock → wpList Try.prog ops Q rest (a.put o.dst v') w') : wpList Try.prog ops Q (o :: rest) a w := by
  obtain ⟨i0, hi0, hz0, hz1, hz2⟩ := info_parts Try.infoU8
  subst hm
  refine wpList_append_own w hgd s x 26 ho base 5 i0 (.int .u8 0) 1 1 Try.underlying26 hi0 hz0 hz1 hz2 rfl (by decide) v bs.length (bs.map byteVal) hs hown ⟨g, 0, none⟩ b2.length c (b2.map byteVal) hx (by simp) ?_ ?_ (by unfold maxLen; omega) (by omega) hbase
    (fun v' w' h1 h2 _ => h v' w' (by unfold OwnB; simpa using h1) h2)
  · intro j u hu
    have hj : j < b2.length := by
      have := (List.getElem?_eq_some_iff.1 hu).1
      simpa using this
    have hadd : (⟨g, 0, none⟩ : Addr).add j = ⟨g, 0 + j, none⟩ := by unfold Addr.add; split <;> simp_all
    rw [hadd, hc j hj]
    simp [List.getElem?_map, List.getElem?_eq_getElem hj, byteVal] at hu
    rw [hu]
  · intro u hu
    simp at hu
    obtain ⟨c, _, rfl⟩ := hu
    rfl
/-- The same, in a region that draws its order. -/
theorem step_append_bytes {ops : Array Oper} {o : Oper} {a : Act} {w : World} {K : Act → World → Prop} {Q : Exit → Act → World → Prop} {E : Prop} (hgd : o.guard = none) (s x : Operand)
    (ho : o.op = .call { callee := .builtin .append, args := #[s, x], argTypes := #[26, 26] })
    (base : Nat) (v : Value) (bs : List UInt8) (hs : a.eval s = v) (hown : OwnB base w v bs) (g m c : Nat) (b2 : List UInt8) (hx : a.eval x = .slice (some ⟨g, 0, none⟩) m c) (hm : m = b2.length)
    (hc : ∀ i (h : i < b2.length), w.cell? ⟨g, 0 + i, none⟩ = some (.int .u8 (b2[i].toNat : Int))) (hn : 0 < b2.length) (hlen : bs.length + b2.length ≤ 1000000000) (hbase : base ≤ w.heap.size)
    (h : ∀ g' cap w', OwnB base w' (.slice (some ⟨g', 0, none⟩) (bs.length + m) cap) (bs ++ b2) → w.grownBy w' v.ownBlock → K (a.put o.dst (.slice (some ⟨g', 0, none⟩) (bs.length + m) cap)) w') :
    if Region.wanted o (yielded ops a.tmps) = true then Oper.wp Try.prog o a w K Q else E := by
  obtain ⟨i0, hi0, hz0, hz1, hz2⟩ := info_parts Try.infoU8
  subst hm
  refine step_append_lies w hgd s x 26 ho base 5 i0 (.int .u8 0) 1 1 Try.underlying26 hi0 hz0 hz1 hz2 rfl (by decide) v bs.length (bs.map byteVal) hs hown ⟨g, 0, none⟩ b2.length c (b2.map byteVal) hx (by simp) ?_ ?_ hn (by unfold maxLen; omega) (by omega) hbase w.heap.size rfl
    (fun g' cap w' h1 h2 _ _ => h g' cap w' (by unfold OwnB; simpa using h1) h2)
  · intro j u hu
    have hj : j < b2.length := by
      have := (List.getElem?_eq_some_iff.1 hu).1
      simpa using this
    have hadd : (⟨g, 0, none⟩ : Addr).add j = ⟨g, 0 + j, none⟩ := by unfold Addr.add; split <;> simp_all
    rw [hadd, hc j hj]
    simp [List.getElem?_map, List.getElem?_eq_getElem hj, byteVal] at hu
    rw [hu]
  · intro u hu
    simp at hu
    obtain ⟨c, _, rfl⟩ := hu
    rfl
end Go.Proofs.Ytegnmnhdpnmnpaa
