/- Words for the laws' walks: an append from whatever source; rows laid one behind the other; how many bytes. -/
import Derived.Laws.AppendOwnNone
import Derived.Test.YtegnmnhdpnmnpaaAwake
import Derived.Test.YtegnmnhdpnmnpaaPlain3
namespace Go.Proofs.Ytegnmnhdpnmnpaa
set_option linter.unusedVariables false
set_option linter.unusedSimpArgs false
open Go.RowKit

theorem wpList_append_src {ops : Array Oper} {rest : List Oper} {o : Oper} {a : Act} {w : World} {Q : Exit → Act → World → Prop} (hgd : o.guard = none) (s x : Operand)
    (ho : o.op = .call { callee := .builtin .append, args := #[s, x], argTypes := #[26, 26] })
    (base : Nat) (v : Value) (bs : List UInt8) (hs : a.eval s = v) (hown : OwnB base w v bs) (av : Option Addr) (m c : Nat) (b2 : List UInt8) (hx : a.eval x = .slice av m c) (hm : m = b2.length)
    (hb : ByteCells w av b2) (hn : av = none → b2 = [] ∧ c = 0) (b3 : List UInt8) (h3 : bs ++ b2 = b3) (hlen : b3.length ≤ 1000000000) (hbase : base ≤ w.heap.size)
    (h : ∀ v' w', OwnB base w' v' b3 → (∀ W0, Fr [] W0 w → W0.heap.size ≤ base → Fr [] W0 w') → wpList Try.prog ops Q rest (a.put o.dst v') w') : wpList Try.prog ops Q (o :: rest) a w := by
  obtain ⟨i0, hi0, hz0, hz1, hz2⟩ := info_parts Try.infoU8
  subst h3
  subst hm
  simp only [List.length_append] at hlen
  cases av with
  | none =>
    obtain ⟨rfl, rfl⟩ := hn rfl
    refine wpList_append_own_none hgd s x 26 ho base 5 i0 1 Try.underlying26 hi0 v bs.length (bs.map byteVal) hs hown hx ?_
    exact h v w (by simpa using hown) (fun _ hf _ => hf)
  | some ad =>
    refine wpList_append_own w hgd s x 26 ho base 5 i0 (.int .u8 0) 1 1 Try.underlying26 hi0 hz0 hz1 hz2 rfl (by decide) v bs.length (bs.map byteVal) hs hown ad b2.length c (b2.map byteVal) hx (by simp) ?_ ?_ (by unfold maxLen; omega) (by omega) hbase
      (fun v' w' h1 h2 _ => h v' w' (by unfold OwnB; simpa using h1) (fun W0 hf hb0 => hf.grown h2 (fun k hk => .inr (Nat.le_trans hb0 (hown.lt k hk).1))))
    · intro j u hu
      have hj : j < b2.length := by
        have := (List.getElem?_eq_some_iff.1 hu).1
        simpa using this
      rcases hb with rfl | ⟨g, o', e, hc⟩
      · simp at hj
      · cases e
        have hadd : (⟨g, o', none⟩ : Addr).add j = ⟨g, o' + j, none⟩ := by unfold Addr.add; split <;> simp_all
        rw [hadd, hc j hj]
        simp [List.getElem?_map, List.getElem?_eq_getElem hj, byteVal] at hu
        rw [hu]
    · intro u hu
      simp at hu
      obtain ⟨c, _, rfl⟩ := hu
      rfl

/-- What stands behind blocks that are laid one behind the other. -/
theorem laid_at : ∀ (l : List Obj) (w : World) (i : Nat) (o : Obj), l[i]? = some o → (l.foldl World.alloc w).heap[w.heap.size + i]? = some o
  | [], _, _, _, h => by simp at h
  | x :: l, w, 0, o, h => by
    simp only [List.getElem?_cons_zero, Option.some.injEq] at h
    subst h
    have key : ∀ (l : List Obj) (w : World) (k : Nat) (o : Obj), w.heap[k]? = some o → (l.foldl World.alloc w).heap[k]? = some o := by
      intro l
      induction l with
      | nil => intro w k o h; exact h
      | cons y l ih => intro w k o h; exact ih (w.alloc y) k o (heap_old y h)
    exact key l (w.alloc x) w.heap.size x (heap_new w x)
  | x :: l, w, i + 1, o, h => by
    have := laid_at l (w.alloc x) i o (by simpa using h)
    rw [show (w.alloc x).heap.size + i = w.heap.size + (i + 1) by simp; omega] at this
    exact this
theorem laid_fr : ∀ (l : List Obj) (w : World), Fr [] w (l.foldl World.alloc w)
  | [], w => Fr.refl _ _
  | x :: l, w => ((Fr.refl [] w).alloc x).then0 (laid_fr l (w.alloc x))

theorem okB_facts {op a b alu cc imm d : Int} (h : okB ⟨op, a, b, alu, cc, imm, d⟩ = true) :
    (1 ≤ op ∧ op ≤ 23) ∧ (0 ≤ a ∧ a ≤ 15) ∧ (0 ≤ b ∧ b ≤ 15) ∧ okCond ⟨op, a, b, alu, cc, imm, d⟩ = true ∧ okRest ⟨op, a, b, alu, cc, imm, d⟩ = true := by
  unfold okB at h
  simp only [Bool.and_eq_true, decide_eq_true_eq, regB] at h
  obtain ⟨⟨⟨h1, h2, h3⟩, h4⟩, h5⟩ := h
  exact ⟨h1, h2, h3, h4, h5⟩

/-- Of an instruction that may be there is a form, and its bytes are that form's. -/
theorem form_of (x : Ins) (hok : okB x = true) (hi0 : 0 ≤ x.imm) (hi1 : x.imm < 18446744073709551616) : Of x := by
  obtain ⟨op, a, b, alu, cc, imm, d⟩ := x
  obtain ⟨⟨ho1, ho2⟩, ⟨ha0, ha1⟩, ⟨hb0, hb1⟩, hC, hR⟩ := okB_facts hok
  simp only at hi0 hi1
  clear hok
  have hops : op = 1 ∨ op = 2 ∨ op = 3 ∨ op = 4 ∨ op = 5 ∨ op = 6 ∨ op = 7 ∨ op = 8 ∨ op = 9 ∨ op = 10 ∨ op = 11 ∨ op = 12 ∨ op = 13 ∨ op = 14 ∨ op = 15 ∨ op = 16 ∨ op = 17 ∨ op = 18 ∨ op = 19 ∨ op = 20 ∨ op = 21 ∨ op = 22 ∨ op = 23 := by omega
  rcases hops with rfl | rfl | rfl | rfl | rfl | rfl | rfl | rfl | rfl | rfl | rfl | rfl | rfl | rfl | rfl | rfl | rfl | rfl | rfl | rfl | rfl | rfl | rfl
  all_goals simp [okRest] at hR
  · obtain ⟨⟨⟨⟨⟨rfl, rfl⟩, rfl⟩, rfl⟩, rfl⟩, rfl⟩ := hR
    exact fo_1
  · obtain ⟨⟨⟨⟨⟨rfl, rfl⟩, rfl⟩, rfl⟩, rfl⟩, rfl⟩ := hR
    exact fo_2
  · obtain ⟨⟨⟨⟨rfl, rfl⟩, rfl⟩, rfl⟩, rfl⟩ := hR
    by_cases h : 7 < a
    · exact fo_3h a h ha1
    · exact fo_3l a ha0 (by omega)
  · obtain ⟨⟨⟨⟨rfl, rfl⟩, rfl⟩, rfl⟩, rfl⟩ := hR
    by_cases h : 7 < a
    · exact fo_4h a h ha1
    · exact fo_4l a ha0 (by omega)
  · obtain ⟨⟨⟨rfl, rfl⟩, rfl⟩, rfl⟩ := hR
    exact fo_5 a imm ha0 ha1 hi0 hi1
  · obtain ⟨⟨⟨rfl, rfl⟩, rfl⟩, rfl⟩ := hR
    have h6 : imm ≤ 4294967295 := by simpa [okCond] using hC
    by_cases h : 7 < a
    · exact fo_6h a imm h ha1 hi0 h6
    · exact fo_6l a imm ha0 (by omega) hi0 h6
  · obtain ⟨⟨rfl, rfl⟩, rfl⟩ := hR
    rcases okCond_7 hC with rfl | rfl | rfl | rfl | rfl | rfl | rfl
    · exact fo_7_0 a b ha0 ha1 hb0 hb1
    · exact fo_7_1 a b ha0 ha1 hb0 hb1
    · exact fo_7_2 a b ha0 ha1 hb0 hb1
    · exact fo_7_3 a b ha0 ha1 hb0 hb1
    · exact fo_7_4 a b ha0 ha1 hb0 hb1
    · exact fo_7_7 a b ha0 ha1 hb0 hb1
    · exact fo_7_8 a b ha0 ha1 hb0 hb1
  · obtain ⟨⟨⟨rfl, rfl⟩, rfl⟩, rfl⟩ := hR
    exact fo_8 a b ha0 ha1 hb0 hb1
  · obtain ⟨⟨rfl, rfl⟩, rfl⟩ := hR
    have h9 := hC
    simp [okCond, wideB, and7 b hb0 hb1] at h9
    exact fo_9 a b d ha0 ha1 hb0 hb1 h9.1 (by omega) (by omega)
  · obtain ⟨⟨rfl, rfl⟩, rfl⟩ := hR
    have h9 := hC
    simp [okCond, wideB, and7 b hb0 hb1] at h9
    exact fo_10 a b d ha0 ha1 hb0 hb1 h9.1 (by omega) (by omega)
  · obtain ⟨⟨⟨rfl, rfl⟩, rfl⟩, rfl⟩ := hR
    have h9 := hC
    simp [okCond, wideB] at h9
    exact fo_11 a d ha0 ha1 (by omega) (by omega)
  · obtain ⟨⟨⟨rfl, rfl⟩, rfl⟩, rfl⟩ := hR
    have h9 := hC
    simp [okCond, wideB] at h9
    exact fo_12 a d ha0 ha1 (by omega) (by omega)
  · obtain ⟨⟨⟨rfl, rfl⟩, rfl⟩, rfl⟩ := hR
    have h9 := hC
    simp [okCond, wideB] at h9
    exact fo_13 a d ha0 ha1 (by omega) (by omega)
  · obtain ⟨⟨rfl, rfl⟩, rfl⟩ := hR
    have h9 := hC
    simp [okCond, groupOps, shortB] at h9
    rcases okCond_14 hC with rfl | rfl | rfl
    · exact fo_14_0 b imm hb0 hb1 hi0 hi1 (by omega) (by omega)
    · exact fo_14_1 b imm hb0 hb1 hi0 hi1 (by omega) (by omega)
    · exact fo_14_7 b imm hb0 hb1 hi0 hi1 (by omega) (by omega)
  · obtain ⟨⟨⟨rfl, rfl⟩, rfl⟩, rfl⟩ := hR
    rcases okCond_15 hC with rfl | rfl
    · exact fo_15_5 b hb0 hb1
    · exact fo_15_6 b hb0 hb1
  · obtain ⟨⟨rfl, rfl⟩, rfl⟩ := hR
    obtain ⟨h9, h8⟩ := okCond_16 hC
    rcases h9 with rfl | rfl
    · exact fo_16_9 b imm hb0 hb1 hi0 h8
    · exact fo_16_10 b imm hb0 hb1 hi0 h8
  · obtain ⟨⟨⟨⟨rfl, rfl⟩, rfl⟩, rfl⟩, rfl⟩ := hR
    have h9 := hC
    simp [okCond, wideB] at h9
    exact fo_17 d (by omega) (by omega)
  · obtain ⟨⟨⟨⟨rfl, rfl⟩, rfl⟩, rfl⟩, rfl⟩ := hR
    have h9 := hC
    simp [okCond, wideB] at h9
    exact fo_18 d (by omega) (by omega)
  · obtain ⟨⟨⟨⟨rfl, rfl⟩, rfl⟩, rfl⟩, rfl⟩ := hR
    have h9 := hC
    simp [okCond, shortB] at h9
    exact fo_19 d (by omega) (by omega)
  · obtain ⟨⟨⟨rfl, rfl⟩, rfl⟩, rfl⟩ := hR
    have h9 := hC
    simp [okCond, condAll, shortB] at h9
    obtain ⟨h9, h8⟩ := h9
    rcases h9 with rfl | rfl | rfl | rfl | rfl | rfl | rfl | rfl
    · exact fo_20_2 d (by omega) (by omega)
    · exact fo_20_3 d (by omega) (by omega)
    · exact fo_20_4 d (by omega) (by omega)
    · exact fo_20_5 d (by omega) (by omega)
    · exact fo_20_8 d (by omega) (by omega)
    · exact fo_20_9 d (by omega) (by omega)
    · exact fo_20_12 d (by omega) (by omega)
    · exact fo_20_13 d (by omega) (by omega)
  · obtain ⟨⟨⟨⟨rfl, rfl⟩, rfl⟩, rfl⟩, rfl⟩ := hR
    have h9 := hC
    simp [okCond, wideB] at h9
    exact fo_21 d (by omega) (by omega)
  · obtain ⟨⟨⟨⟨rfl, rfl⟩, rfl⟩, rfl⟩, rfl⟩ := hR
    have h9 := hC
    simp [okCond, wideB] at h9
    exact fo_22 d (by omega) (by omega)
  · obtain ⟨⟨⟨⟨rfl, rfl⟩, rfl⟩, rfl⟩, rfl⟩ := hR
    exact fo_23 imm hi0 (okCond_23 hC)

theorem enc_pos (x : Ins) (hok : okB x = true) (hi0 : 0 ≤ x.imm) (hi1 : x.imm < 18446744073709551616) : 0 < (encL x).length ∧ (encL x).length ≤ 10 := by
  obtain ⟨f, hf, hs, -, -⟩ := form_of x hok hi0 hi1
  have := forms_pos f hf
  rw [← hs]
  unfold Form.size
  omega
/-- What is encoded is decoded, whatever stands behind it. -/
theorem dec_enc (x : Ins) (hok : okB x = true) (hi0 : 0 ≤ x.imm) (hi1 : x.imm < 18446744073709551616) (more : List UInt8) : decodeL (encL x ++ more) = (x, ((encL x).length : Int), 0) := by
  obtain ⟨f, hf, hs, hfit, hins⟩ := form_of x hok hi0 hi1
  rw [decodeL_of hf (hfit more) (by rw [hs]; simp), hs, List.take_left, hins]
/-- Each beginning of it may become it. -/
theorem dec_part (x : Ins) (hok : okB x = true) (hi0 : 0 ≤ x.imm) (hi1 : x.imm < 18446744073709551616) (i : Nat) (hi : i < (encL x).length) : decodeL ((encL x).take i) = ({}, 0, 2) := by
  obtain ⟨f, hf, hs, hfit, hins⟩ := form_of x hok hi0 hi1
  have h := hfit []
  rw [List.append_nil] at h
  exact decodeL_short hf (fits_take h i (forms_pos f hf).1) (by rw [hs, List.length_take]; omega)
theorem enc_inj (x y : Ins) (hx : okB x = true) (hx0 : 0 ≤ x.imm) (hx1 : x.imm < 18446744073709551616) (hy : okB y = true) (hy0 : 0 ≤ y.imm) (hy1 : y.imm < 18446744073709551616) (h : encL x = encL y) : x = y := by
  have h1 := dec_enc x hx hx0 hx1 []
  have h2 := dec_enc y hy hy0 hy1 []
  rw [h, h2] at h1
  exact (Prod.mk.inj h1).1.symm
end Go.Proofs.Ytegnmnhdpnmnpaa
