/- The walk of DecBack: what is encoded is decoded. -/
import Derived.Deep.RegionHeld3
import Derived.Deep.DeepCutAuto
import Derived.Deep.Light
import Derived.Laws.StructEq
import Derived.Test.YtegnmnhdpnmnpaaLaw
import Derived.Test.YtegnmnhdpnmnpaaTame
namespace Go.Proofs.Ytegnmnhdpnmnpaa
set_option linter.unusedVariables false
set_option linter.unusedSimpArgs false
open Go.RowKit

theorem heap_far {w : World} {p : Addr} {v : Value} {k : Nat} {o : Obj} (h : w.heap[k]? = some o) (hn : ¬ p.block = k) : (w.setCell p v).heap[k]? = some o :=
  (Below.heap_setCell _ _ _ _ (fun e => hn e.symm)).trans h

theorem dec_whole (w : World) (a : Option Addr) (cap : Nat) (bs : List UInt8) (hb : ByteCells w a bs) (ha : bs ≠ [] → ∀ g o, a = some ⟨g, o, none⟩ → g < w.heap.size)
    (hcap : bs.length ≤ cap) (hcap2 : cap ≤ maxLen) (op xa xb alu cc imm d n z : Int) (hd : decodeL bs = (⟨op, xa, xb, alu, cc, imm, d⟩, n, z)) :
    Calls Try.prog 12 #[.slice a bs.length cap] w fun e w' =>
      e = .returned (.tuple #[.agg #[.int .i64 op, .int .i64 xa, .int .i64 xb, .int .i64 alu, .int .i64 cc, .int .u64 imm, .int .i64 d], .int .i64 n, .int .i64 z]) ∧ Fr [] w w' := by
  have key := decode_any w a cap bs hb ha hcap (by unfold maxLen at hcap2; omega)
  rw [hd] at key
  exact key
theorem have_ {p q : Prop} (h : p → q) (hp : p) : q := h hp
/-- What Encode tells of an instruction that may be. -/
structure HasB (w : World) (a : Option Addr) (cap : Nat) (bs : List UInt8) : Prop where
  cells : ByteCells w a bs
  lt : ∀ g o, a = some ⟨g, o, none⟩ → g < w.heap.size
  le : bs.length ≤ cap
  cap : cap ≤ maxLen
theorem HasB.fr {w w1 : World} {a : Option Addr} {cap : Nat} {bs : List UInt8} (h : HasB w a cap bs) (f : Fr [] w w1) : HasB w1 a cap bs := ⟨h.cells.fr f (by simp), fun g o e => f.lt (h.lt g o e), h.le, h.cap⟩
theorem enc_bytes (x : Ins) (hok : okB x = true) (hi0 : 0 ≤ x.imm) (hi1 : x.imm < 18446744073709551616) (bs : List UInt8) (hbs : encL x = bs) (W : World) :
    Calls Try.prog 10 #[.agg #[.int .i64 x.op, .int .i64 x.a, .int .i64 x.b, .int .i64 x.alu, .int .i64 x.cc, .int .u64 x.imm, .int .i64 x.disp]] W fun e w' => ∃ a2 cap2, e = .returned (.tuple #[.slice a2 bs.length cap2, .bool true]) ∧ HasB w' a2 cap2 bs ∧ Fr [] W w' := by
  subst hbs
  have e := encode_any x hi0 hi1 W
  rw [if_pos hok, hok] at e
  refine e.mono fun e' w' h => ?_
  obtain ⟨sv, rfl, hown, hf⟩ := h
  obtain ⟨a2, cap2, rfl, hle, hcm, hbc, hg⟩ := hown.form
  exact ⟨a2, cap2, rfl, ⟨hbc, fun g o e => (hg g o e).2.1, hle, hcm⟩, hf⟩
theorem dec_bytes (w : World) (a : Option Addr) (cap k : Nat) (bs : List UInt8) (h : HasB w a cap bs) (hk : k ≤ bs.length) (op xa xb alu cc imm d n z : Int) (hd : decodeL (bs.take k) = (⟨op, xa, xb, alu, cc, imm, d⟩, n, z)) :
    Calls Try.prog 12 #[.slice a k cap] w fun e w' => e = .returned (.tuple #[.agg #[.int .i64 op, .int .i64 xa, .int .i64 xb, .int .i64 alu, .int .i64 cc, .int .u64 imm, .int .i64 d], .int .i64 n, .int .i64 z]) ∧ Fr [] w w' := by
  have hl : (bs.take k).length = k := by rw [List.length_take]; omega
  have hc : ByteCells w a (bs.take k) := by
    rcases h.cells with e | ⟨g, o, e, hc⟩
    · exact .inl (by simp [e])
    · exact .inr ⟨g, o, e, fun i hi => by
        rw [List.getElem_take]
        exact hc i (by omega)⟩
  have hcm := h.cap
  have hle := h.le
  have key := decode_any w a cap (bs.take k) hc (fun _ => h.lt) (by omega) (by unfold maxLen at hcm; omega)
  rw [hd, hl] at key
  exact key
theorem HasB.str {w : World} {a : Option Addr} {cap : Nat} {bs : List UInt8} (h : HasB w a cap bs) (hp : 0 < bs.length) : (convert 26 9 (.slice a bs.length cap)).run Try.prog w = .ok (.string ⟨bs.toArray⟩) w :=
  str_of h.cells (fun e => by
    subst e
    rcases h.cells with h | ⟨g, o, e, _⟩
    · exact h
    · cases e) _ 5 _ Try.underlying26 Try.underlying5 Try.underlying9
theorem cells_fr {w w1 : World} {g : Nat} {a b c d e f i : Value} (h0 : w.cell? ⟨g, 0, none⟩ = some a) (h1 : w.cell? ⟨g, 1, none⟩ = some b) (h2 : w.cell? ⟨g, 2, none⟩ = some c) (h3 : w.cell? ⟨g, 3, none⟩ = some d) (h4 : w.cell? ⟨g, 4, none⟩ = some e) (h5 : w.cell? ⟨g, 5, none⟩ = some f) (h6 : w.cell? ⟨g, 6, none⟩ = some i) (h : Fr [] w w1) :
    w1.cell? ⟨g, 0, none⟩ = some a ∧ w1.cell? ⟨g, 1, none⟩ = some b ∧ w1.cell? ⟨g, 2, none⟩ = some c ∧ w1.cell? ⟨g, 3, none⟩ = some d ∧ w1.cell? ⟨g, 4, none⟩ = some e ∧ w1.cell? ⟨g, 5, none⟩ = some f ∧ w1.cell? ⟨g, 6, none⟩ = some i :=
  ⟨h.cell h0 (by simp), h.cell h1 (by simp), h.cell h2 (by simp), h.cell h3 (by simp), h.cell h4 (by simp), h.cell h5 (by simp), h.cell h6 (by simp)⟩
theorem str_ne {a b : List UInt8} (h : ¬ a = b) : ((⟨a.toArray⟩ : ByteArray) == ⟨b.toArray⟩) = false := by
  rw [beq_toListBytes, ByteArray.toList_eq, ByteArray.toList_eq]
  simpa using h
def InsAt (w : World) (g : Nat) (x : Ins) : Prop :=
  w.cell? ⟨g, 0, none⟩ = some (.int .i64 x.op) ∧ w.cell? ⟨g, 1, none⟩ = some (.int .i64 x.a) ∧ w.cell? ⟨g, 2, none⟩ = some (.int .i64 x.b) ∧ w.cell? ⟨g, 3, none⟩ = some (.int .i64 x.alu) ∧ w.cell? ⟨g, 4, none⟩ = some (.int .i64 x.cc) ∧ w.cell? ⟨g, 5, none⟩ = some (.int .u64 x.imm) ∧ w.cell? ⟨g, 6, none⟩ = some (.int .i64 x.disp)
def GoodIns (x : Ins) : Prop := okB x = true ∧ 0 ≤ x.imm ∧ x.imm < 18446744073709551616
/-- Two instructions that may be, each in a block of its own. -/
def TwoIns (w wx : World) (s7 s8 : Value) : Prop := ∃ (g7 g8 : Nat) (x y : Ins), s7 = .pointer (some ⟨g7, 0, none⟩) ∧ s8 = .pointer (some ⟨g8, 0, none⟩) ∧ Fr [] w wx ∧ InsAt wx g7 x ∧ InsAt wx g8 y ∧ GoodIns x ∧ GoodIns y

set_option maxRecDepth 100000 in
set_option maxHeartbeats 16000000 in
theorem back_law (op a b alu cc imm d yop ya yb yalu ycc yimm yd : Int) (hi0 : 0 ≤ imm) (hi1 : imm < 18446744073709551616) (hj0 : 0 ≤ yimm) (hj1 : yimm < 18446744073709551616)
    (w : World) (a0 : Option Addr) (cap0 : Nat) (bs : List UInt8) (hb : ByteCells w a0 bs) (ha : bs ≠ [] → ∀ g o, a0 = some ⟨g, o, none⟩ → g < w.heap.size) (hn : a0 = none → bs = [] ∧ cap0 = 0) :
    Calls Try.prog 7 #[.agg #[.int .i64 op, .int .i64 a, .int .i64 b, .int .i64 alu, .int .i64 cc, .int .u64 imm, .int .i64 d], .agg #[.int .i64 yop, .int .i64 ya, .int .i64 yb, .int .i64 yalu, .int .i64 ycc, .int .u64 yimm, .int .i64 yd], .slice a0 bs.length cap0] w fun e w' => e = .returned (.bool true) ∧ Fr [] w w' := by
  by_cases hl : bs.length ≤ 40
  case neg =>
    have hl' : (40 : Int) < (bs.length : Int) := by omega
    go_enter Try.func7, Try.ntmps7
    go_wp2_with (go_at_call 11; refine (awake_any _).mono ?_; rintro e w' ⟨rfl, hf⟩)
    go_ret
    exact ⟨rfl, (((Fr.refl [] w).alloc _).alloc _).then0 hf⟩
  have l1 : (bs.length : Int) ≤ 40 := by omega
  have TX := fun W => tame_any op a b alu cc imm d hi0 hi1 W
  have TY := fun W => tame_any yop ya yb yalu ycc yimm yd hj0 hj1 W
  have HB := Lib.hid hb
  have HN := Lib.hid hn
  clear hb hn ha hi0 hi1 hj0 hj1
  go_enter Try.func7, Try.ntmps7
  go_upto_region 3 with fail
  refine wp_world (fun W => Fr [] w W ∧ W.heap[w.heap.size]? = some (.cells #[.int .i64 op, .int .i64 a, .int .i64 b, .int .i64 alu, .int .i64 cc, .int .u64 imm, .int .i64 d] 24 (0, 0)) ∧ W.heap[w.heap.size + 1]? = some (.cells #[.int .i64 yop, .int .i64 ya, .int .i64 yb, .int .i64 yalu, .int .i64 ycc, .int .u64 yimm, .int .i64 yd] 24 (0, 0))) ⟨((Fr.refl [] w).alloc _).alloc _, heap_old _ (heap_new _ _), heap_at (by simp) rfl⟩ ?_
  rintro W ⟨hW, hX, hY⟩
  obtain ⟨x0, x1, x2, x3, x4, x5, x6, xf⟩ := cells7 hX
  obtain ⟨y0, y1, y2, y3, y4, y5, y6, yf⟩ := cells7 hY
  have hlt : w.heap.size + 1 < W.heap.size := lt_of_heap hY
  have HX := Lib.hid hX
  have HY := Lib.hid hY
  have HW := Lib.hid hW
  clear hX hY hW xf yf
  go_cut [7, 8] (fun s7 s8 wx => TwoIns w wx s7 s8)
  case first =>
    (first | go_region_held3 (fun V => (V.cell? ⟨w.heap.size, 0, none⟩ = some (.int .i64 op) ∧ V.cell? ⟨w.heap.size, 1, none⟩ = some (.int .i64 a) ∧ V.cell? ⟨w.heap.size, 2, none⟩ = some (.int .i64 b) ∧ V.cell? ⟨w.heap.size, 3, none⟩ = some (.int .i64 alu) ∧ V.cell? ⟨w.heap.size, 4, none⟩ = some (.int .i64 cc) ∧ V.cell? ⟨w.heap.size, 5, none⟩ = some (.int .u64 imm) ∧ V.cell? ⟨w.heap.size, 6, none⟩ = some (.int .i64 d)) ∧ (V.cell? ⟨w.heap.size + 1, 0, none⟩ = some (.int .i64 yop) ∧ V.cell? ⟨w.heap.size + 1, 1, none⟩ = some (.int .i64 ya) ∧ V.cell? ⟨w.heap.size + 1, 2, none⟩ = some (.int .i64 yb) ∧ V.cell? ⟨w.heap.size + 1, 3, none⟩ = some (.int .i64 yalu) ∧ V.cell? ⟨w.heap.size + 1, 4, none⟩ = some (.int .i64 ycc) ∧ V.cell? ⟨w.heap.size + 1, 5, none⟩ = some (.int .u64 yimm) ∧ V.cell? ⟨w.heap.size + 1, 6, none⟩ = some (.int .i64 yd)))
      ((refine ⟨cells7' (t := 24) ?_, cells7' (t := 24) ?_⟩ <;> ((repeat' (first | (with_reducible apply heap_old) | (with_reducible apply heap_drew) | (with_reducible refine heap_far ?_ (by (try have z1 := hf1.size); (try have z2 := hf2.size); (try simp at z1); (try simp at z2); simp; omega)) | (with_reducible refine hf1.heap ?_ (by simp)) | (with_reducible refine hf2.heap ?_ (by simp)) | fail)); first | (with_reducible exact HX.out) | (with_reducible exact HY.out) | fail)))
      (first | (go_at_call_of 9 (Value.int .i64 op); refine (TX _).mono ?_; rintro e W1 ⟨⟨p0, p1, p2, p3, p4, p5, p6⟩, rfl, okx, ox0, ox1, hf1⟩; have OKX := Lib.hid (And.intro okx (And.intro ox0 ox1)); clear okx ox0 ox1; simp only [Ins.row]; (first | (refine have_ (p := W1.heap[W.heap.size]? = some (Obj.cells #[.int .i64 0, .int .i64 0, .int .i64 0, .int .i64 0, .int .i64 0, .int .u64 0, .int .i64 0] 24 (0, 0))) ?_ ?_; rotate_left 1; (focus ((with_reducible refine hf1.heap ?_ ?_); (focus ((try (with_reducible apply heap_drew)); (with_reducible apply heap_old); (with_reducible refine heap_at ?_ ?_); (focus (simp; done)); exact rfl)); (focus simp))); intro GA; have lGA := lt_of_heap GA; obtain ⟨ga0, ga1, ga2, ga3, ga4, ga5, ga6, ga7⟩ := cells7 GA; refine have_ (p := W1.heap[W.heap.size + 1]? = some (Obj.cells #[.int .i64 0, .int .i64 0, .int .i64 0, .int .i64 0, .int .i64 0, .int .u64 0, .int .i64 0] 24 (0, 0))) ?_ ?_; rotate_left 1; (focus ((with_reducible refine hf1.heap ?_ ?_); (focus ((try (with_reducible apply heap_drew)); (with_reducible refine heap_at ?_ ?_); (focus (simp; done)); exact rfl)); (focus simp))); intro GB; have lGB := lt_of_heap GB; obtain ⟨gb0, gb1, gb2, gb3, gb4, gb5, gb6, gb7⟩ := cells7 GB) | (refine have_ (p := W1.heap[W.heap.size]? = some (Obj.cells #[.int .i64 0, .int .i64 0, .int .i64 0, .int .i64 0, .int .i64 0, .int .u64 0, .int .i64 0] 24 (0, 0))) ?_ ?_; rotate_left 1; (focus ((with_reducible refine hf1.heap ?_ ?_); (focus ((try (with_reducible apply heap_drew)); (with_reducible refine heap_at ?_ ?_); (focus (simp; done)); exact rfl)); (focus simp))); intro GA; have lGA := lt_of_heap GA; obtain ⟨ga0, ga1, ga2, ga3, ga4, ga5, ga6, ga7⟩ := cells7 GA) | skip); have s1 := hf1.size; (try simp at s1)) | (go_at_call_of 9 (Value.int .i64 yop); refine (TY _).mono ?_; rintro e W2 ⟨⟨q0, q1, q2, q3, q4, q5, q6⟩, rfl, oky, oy0, oy1, hf2⟩; have OKY := Lib.hid (And.intro oky (And.intro oy0 oy1)); clear oky oy0 oy1; simp only [Ins.row]; (first | (refine have_ (p := W2.heap[W.heap.size]? = some (Obj.cells #[.int .i64 0, .int .i64 0, .int .i64 0, .int .i64 0, .int .i64 0, .int .u64 0, .int .i64 0] 24 (0, 0))) ?_ ?_; rotate_left 1; (focus ((with_reducible refine hf2.heap ?_ ?_); (focus ((repeat' (first | (with_reducible apply heap_old) | (with_reducible apply heap_drew) | fail)); (with_reducible exact GA))); (focus simp))); intro GC; have lGC := lt_of_heap GC; obtain ⟨gc0, gc1, gc2, gc3, gc4, gc5, gc6, gc7⟩ := cells7 GC; refine have_ (p := W2.heap[W.heap.size + 1]? = some (Obj.cells #[.int .i64 0, .int .i64 0, .int .i64 0, .int .i64 0, .int .i64 0, .int .u64 0, .int .i64 0] 24 (0, 0))) ?_ ?_; rotate_left 1; (focus ((with_reducible refine hf2.heap ?_ ?_); (focus ((repeat' (first | (with_reducible apply heap_old) | (with_reducible apply heap_drew) | fail)); (with_reducible exact GB))); (focus simp))); intro GD; have lGD := lt_of_heap GD; obtain ⟨gd0, gd1, gd2, gd3, gd4, gd5, gd6, gd7⟩ := cells7 GD) | (refine have_ (p := W2.heap[W.heap.size]? = some (Obj.cells #[.int .i64 0, .int .i64 0, .int .i64 0, .int .i64 0, .int .i64 0, .int .u64 0, .int .i64 0] 24 (0, 0))) ?_ ?_; rotate_left 1; (focus ((with_reducible refine hf2.heap ?_ ?_); (focus ((repeat' (first | (with_reducible apply heap_old) | (with_reducible apply heap_drew) | fail)); (with_reducible exact GA))); (focus simp))); intro GC; have lGC := lt_of_heap GC; obtain ⟨gc0, gc1, gc2, gc3, gc4, gc5, gc6, gc7⟩ := cells7 GC; refine have_ (p := W2.heap[W1.heap.size]? = some (Obj.cells #[.int .i64 0, .int .i64 0, .int .i64 0, .int .i64 0, .int .i64 0, .int .u64 0, .int .i64 0] 24 (0, 0))) ?_ ?_; rotate_left 1; (focus ((with_reducible refine hf2.heap ?_ ?_); (focus ((try (with_reducible apply heap_drew)); (with_reducible refine heap_at ?_ ?_); (focus (simp; done)); exact rfl)); (focus simp))); intro GE; have lGE := lt_of_heap GE; obtain ⟨ge0, ge1, ge2, ge3, ge4, ge5, ge6, ge7⟩ := cells7 GE) | (refine have_ (p := W2.heap[W.heap.size]? = some (Obj.cells #[.int .i64 0, .int .i64 0, .int .i64 0, .int .i64 0, .int .i64 0, .int .u64 0, .int .i64 0] 24 (0, 0))) ?_ ?_; rotate_left 1; (focus ((with_reducible refine hf2.heap ?_ ?_); (focus ((repeat' (first | (with_reducible apply heap_old) | (with_reducible apply heap_drew) | fail)); (with_reducible exact GA))); (focus simp))); intro GC; have lGC := lt_of_heap GC; obtain ⟨gc0, gc1, gc2, gc3, gc4, gc5, gc6, gc7⟩ := cells7 GC) | (refine have_ (p := W2.heap[W1.heap.size]? = some (Obj.cells #[.int .i64 0, .int .i64 0, .int .i64 0, .int .i64 0, .int .i64 0, .int .u64 0, .int .i64 0] 24 (0, 0))) ?_ ?_; rotate_left 1; (focus ((with_reducible refine hf2.heap ?_ ?_); (focus ((try (with_reducible apply heap_drew)); (with_reducible apply heap_old); (with_reducible refine heap_at ?_ ?_); (focus (simp; done)); exact rfl)); (focus simp))); intro GE; have lGE := lt_of_heap GE; obtain ⟨ge0, ge1, ge2, ge3, ge4, ge5, ge6, ge7⟩ := cells7 GE; refine have_ (p := W2.heap[W1.heap.size + 1]? = some (Obj.cells #[.int .i64 0, .int .i64 0, .int .i64 0, .int .i64 0, .int .i64 0, .int .u64 0, .int .i64 0] 24 (0, 0))) ?_ ?_; rotate_left 1; (focus ((with_reducible refine hf2.heap ?_ ?_); (focus ((try (with_reducible apply heap_drew)); (with_reducible refine heap_at ?_ ?_); (focus (simp; done)); exact rfl)); (focus simp))); intro GF; have lGF := lt_of_heap GF; obtain ⟨gf0, gf1, gf2, gf3, gf4, gf5, gf6, gf7⟩ := cells7 GF) | (refine have_ (p := W2.heap[W1.heap.size]? = some (Obj.cells #[.int .i64 0, .int .i64 0, .int .i64 0, .int .i64 0, .int .i64 0, .int .u64 0, .int .i64 0] 24 (0, 0))) ?_ ?_; rotate_left 1; (focus ((with_reducible refine hf2.heap ?_ ?_); (focus ((try (with_reducible apply heap_drew)); (with_reducible refine heap_at ?_ ?_); (focus (simp; done)); exact rfl)); (focus simp))); intro GE; have lGE := lt_of_heap GE; obtain ⟨ge0, ge1, ge2, ge3, ge4, ge5, ge6, ge7⟩ := cells7 GE) | skip); have s2 := hf2.size; (try simp at s2))) | fail)
    all_goals
      go_wp2_with fail
      go_meet
      refine ⟨_, _, ⟨p0, p1, p2, p3, p4, p5, p6⟩, ⟨q0, q1, q2, q3, q4, q5, q6⟩, rfl, rfl, (by (repeat' (with_reducible (first | apply Fr.alloc | apply Fr.drew | apply Fr.setCell | exact HW.out | refine Fr.then0 ?_ hf1 | refine Fr.then0 ?_ hf2))); all_goals (right; simp; omega)), ?_, ?_, OKX.out, OKY.out⟩
      all_goals (refine ⟨?_, ?_, ?_, ?_, ?_, ?_, ?_⟩ <;> go_simp)
  case rest =>
    obtain ⟨g7, g8, ⟨p0, p1, p2, p3, p4, p5, p6⟩, ⟨q0, q1, q2, q3, q4, q5, q6⟩, rfl, rfl, hf, hx, hy, ⟨okx, ox0, ox1⟩, ⟨oky, oy0, oy1⟩⟩ := hcut
    obtain ⟨BX, hBX⟩ : ∃ B, encL ⟨p0, p1, p2, p3, p4, p5, p6⟩ = B := ⟨_, rfl⟩
    obtain ⟨BY, hBY⟩ : ∃ B, encL ⟨q0, q1, q2, q3, q4, q5, q6⟩ = B := ⟨_, rfl⟩
    have ENX := enc_bytes _ okx ox0 ox1 BX hBX
    have ENY := enc_bytes _ oky oy0 oy1 BY hBY
    simp only at ENX ENY
    have hpx := enc_pos _ okx ox0 ox1
    have hpy := enc_pos _ oky oy0 oy1
    have HPART : Hid (∀ k, k < BX.length → decodeL (BX.take k) = (⟨0, 0, 0, 0, 0, 0, 0⟩, 0, 2)) := Lib.hid fun k hk => by
      rw [← hBX] at hk ⊢; exact dec_part _ okx ox0 ox1 k hk
    have HFULL : Hid (decodeL (BX ++ bs) = (⟨p0, p1, p2, p3, p4, p5, p6⟩, (BX.length : Int), 0)) := Lib.hid (by rw [← hBX]; exact dec_enc _ okx ox0 ox1 bs)
    have HINJ : Hid (BX = BY → (⟨p0, p1, p2, p3, p4, p5, p6⟩ : Ins) = ⟨q0, q1, q2, q3, q4, q5, q6⟩) := Lib.hid fun e => enc_inj _ _ okx ox0 ox1 oky oy0 oy1 (by rw [hBX, hBY]; exact e)
    have HEQ : Hid ((⟨p0, p1, p2, p3, p4, p5, p6⟩ : Ins) = ⟨q0, q1, q2, q3, q4, q5, q6⟩ → BX = BY) := Lib.hid fun e => by rw [← hBX, ← hBY, e]
    rw [hBX] at hpx
    rw [hBY] at hpy
    clear hBX hBY okx ox0 ox1 oky oy0 oy1 TX TY x0 x1 x2 x3 x4 x5 x6 y0 y1 y2 y3 y4 y5 y6 HX HY
    have b0 : (0 : Int) < (BX.length : Int) := by omega
    have b1 : (BX.length : Int) ≤ 10 := by omega
    obtain ⟨x0, x1, x2, x3, x4, x5, x6⟩ := hx
    obtain ⟨y0, y1, y2, y3, y4, y5, y6⟩ := hy
    simp only at x0 x1 x2 x3 x4 x5 x6 y0 y1 y2 y3 y4 y5 y6
    go_upto_region 5 with (go_at_call 10; refine (ENX _).mono ?_; rintro e W1 ⟨ab, cb, rfl, hb1, hf1⟩)
    have hz1 := cells_fr x0 x1 x2 x3 x4 x5 x6 hf1
    have hz2 := cells_fr y0 y1 y2 y3 y4 y5 y6 hf1
    clear x0 x1 x2 x3 x4 x5 x6 y0 y1 y2 y3 y4 y5 y6
    obtain ⟨x0, x1, x2, x3, x4, x5, x6⟩ := hz1
    obtain ⟨y0, y1, y2, y3, y4, y5, y6⟩ := hz2
    go_upto_region 6 with (go_at_call 10; refine (ENY _).mono ?_; rintro e W2 ⟨ac, cc2, rfl, hb2, hf2⟩)
    have hz1 := cells_fr x0 x1 x2 x3 x4 x5 x6 hf2
    have hz2 := cells_fr y0 y1 y2 y3 y4 y5 y6 hf2
    clear x0 x1 x2 x3 x4 x5 x6 y0 y1 y2 y3 y4 y5 y6
    have HF2 := Lib.hid ((hf.then0 hf1).then0 hf2)
    have HB1 := Lib.hid (hb1.fr hf2)
    have hp1 := hpx.1
    have hp2 := hpy.1
    have SH : Hid (∀ V, Fr [] W2 V → (V.cell? ⟨g7, 0, none⟩ = some (.int .i64 p0) ∧ V.cell? ⟨g7, 1, none⟩ = some (.int .i64 p1) ∧ V.cell? ⟨g7, 2, none⟩ = some (.int .i64 p2) ∧ V.cell? ⟨g7, 3, none⟩ = some (.int .i64 p3) ∧ V.cell? ⟨g7, 4, none⟩ = some (.int .i64 p4) ∧ V.cell? ⟨g7, 5, none⟩ = some (.int .u64 p5) ∧ V.cell? ⟨g7, 6, none⟩ = some (.int .i64 p6)) ∧ (V.cell? ⟨g8, 0, none⟩ = some (.int .i64 q0) ∧ V.cell? ⟨g8, 1, none⟩ = some (.int .i64 q1) ∧ V.cell? ⟨g8, 2, none⟩ = some (.int .i64 q2) ∧ V.cell? ⟨g8, 3, none⟩ = some (.int .i64 q3) ∧ V.cell? ⟨g8, 4, none⟩ = some (.int .i64 q4) ∧ V.cell? ⟨g8, 5, none⟩ = some (.int .u64 q5) ∧ V.cell? ⟨g8, 6, none⟩ = some (.int .i64 q6)) ∧ (convert 26 9 (.slice ab BX.length cb)).run Try.prog V = .ok (.string ⟨BX.toArray⟩) V ∧ (convert 26 9 (.slice ac BY.length cc2)).run Try.prog V = .ok (.string ⟨BY.toArray⟩) V) := Lib.hid fun V hV => ⟨cells_fr hz1.1 hz1.2.1 hz1.2.2.1 hz1.2.2.2.1 hz1.2.2.2.2.1 hz1.2.2.2.2.2.1 hz1.2.2.2.2.2.2 hV, cells_fr hz2.1 hz2.2.1 hz2.2.2.1 hz2.2.2.2.1 hz2.2.2.2.2.1 hz2.2.2.2.2.2.1 hz2.2.2.2.2.2.2 hV, ((hb1.fr hf2).fr hV).str hp1, (hb2.fr hV).str hp2⟩
    clear hf hf1 hf2 hb1 hb2 ENX ENY hpx hpy hp1 hp2 hz1 hz2
    go_cut [64] (fun s64 wx => s64 = .bool false ∧ Fr [] W2 wx)
    case first =>
      by_cases e0 : p0 = q0
      · subst e0
        by_cases e1 : p1 = q1
        · subst e1
          by_cases e2 : p2 = q2
          · subst e2
            by_cases e3 : p3 = q3
            · subst e3
              by_cases e4 : p4 = q4
              · subst e4
                by_cases e5 : p5 = q5
                · subst e5
                  by_cases e6 : p6 = q6
                  · subst e6
                    obtain rfl : BX = BY := HEQ.out rfl
                    clear HINJ HEQ HPART HFULL HN HB HB1
                    have t1 : ((BX.length : Int) == 0) = false := by simp; intro e; simp [e] at b0
                    have t2 : decide ((10 : Int) < (BX.length : Int)) = false := by simp; omega
                    have t3 : ¬ BX = [] := by rintro rfl; simp at b0
                    (first | go_region_held3 (fun V => (V.cell? ⟨g7, 0, none⟩ = some (.int .i64 p0) ∧ V.cell? ⟨g7, 1, none⟩ = some (.int .i64 p1) ∧ V.cell? ⟨g7, 2, none⟩ = some (.int .i64 p2) ∧ V.cell? ⟨g7, 3, none⟩ = some (.int .i64 p3) ∧ V.cell? ⟨g7, 4, none⟩ = some (.int .i64 p4) ∧ V.cell? ⟨g7, 5, none⟩ = some (.int .u64 p5) ∧ V.cell? ⟨g7, 6, none⟩ = some (.int .i64 p6)) ∧ (V.cell? ⟨g8, 0, none⟩ = some (.int .i64 p0) ∧ V.cell? ⟨g8, 1, none⟩ = some (.int .i64 p1) ∧ V.cell? ⟨g8, 2, none⟩ = some (.int .i64 p2) ∧ V.cell? ⟨g8, 3, none⟩ = some (.int .i64 p3) ∧ V.cell? ⟨g8, 4, none⟩ = some (.int .i64 p4) ∧ V.cell? ⟨g8, 5, none⟩ = some (.int .u64 p5) ∧ V.cell? ⟨g8, 6, none⟩ = some (.int .i64 p6)) ∧ (convert 26 9 (.slice ab BX.length cb)).run Try.prog V = .ok (.string ⟨BX.toArray⟩) V ∧ (convert 26 9 (.slice ac BX.length cc2)).run Try.prog V = .ok (.string ⟨BX.toArray⟩) V) (exact SH.out _ (Fr.refl _ _).drew) (fail) | fail)
                    all_goals (go_wp2_with fail; go_meet; exact ⟨rfl, (Fr.refl _ _).drew⟩)
                  · have dd : (p6 == q6) = false := by simpa using e6
                    have ds : (BX == BY) = false := beq_eq_false_iff_ne.2 (fun e => e6 (congrArg Ins.disp (HINJ.out e)))
                    clear e6
                    clear HINJ HEQ HPART HFULL HN HB HB1
                    have t1 : ((BX.length : Int) == 0) = false := by simp; intro e; simp [e] at b0
                    have t2 : decide ((10 : Int) < (BX.length : Int)) = false := by simp; omega
                    have t3 : ¬ BX = [] := by rintro rfl; simp at b0
                    (first | go_region_held3 (fun V => (V.cell? ⟨g7, 0, none⟩ = some (.int .i64 p0) ∧ V.cell? ⟨g7, 1, none⟩ = some (.int .i64 p1) ∧ V.cell? ⟨g7, 2, none⟩ = some (.int .i64 p2) ∧ V.cell? ⟨g7, 3, none⟩ = some (.int .i64 p3) ∧ V.cell? ⟨g7, 4, none⟩ = some (.int .i64 p4) ∧ V.cell? ⟨g7, 5, none⟩ = some (.int .u64 p5) ∧ V.cell? ⟨g7, 6, none⟩ = some (.int .i64 p6)) ∧ (V.cell? ⟨g8, 0, none⟩ = some (.int .i64 p0) ∧ V.cell? ⟨g8, 1, none⟩ = some (.int .i64 p1) ∧ V.cell? ⟨g8, 2, none⟩ = some (.int .i64 p2) ∧ V.cell? ⟨g8, 3, none⟩ = some (.int .i64 p3) ∧ V.cell? ⟨g8, 4, none⟩ = some (.int .i64 p4) ∧ V.cell? ⟨g8, 5, none⟩ = some (.int .u64 p5) ∧ V.cell? ⟨g8, 6, none⟩ = some (.int .i64 q6)) ∧ (convert 26 9 (.slice ab BX.length cb)).run Try.prog V = .ok (.string ⟨BX.toArray⟩) V ∧ (convert 26 9 (.slice ac BY.length cc2)).run Try.prog V = .ok (.string ⟨BY.toArray⟩) V) (exact SH.out _ (Fr.refl _ _).drew) (fail) | fail)
                    all_goals (go_wp2_with fail; go_meet; exact ⟨rfl, (Fr.refl _ _).drew⟩)
                · have dd : (p5 == q5) = false := by simpa using e5
                  have ds : (BX == BY) = false := beq_eq_false_iff_ne.2 (fun e => e5 (congrArg Ins.imm (HINJ.out e)))
                  clear e5
                  clear HINJ HEQ HPART HFULL HN HB HB1
                  have t1 : ((BX.length : Int) == 0) = false := by simp; intro e; simp [e] at b0
                  have t2 : decide ((10 : Int) < (BX.length : Int)) = false := by simp; omega
                  have t3 : ¬ BX = [] := by rintro rfl; simp at b0
                  (first | go_region_held3 (fun V => (V.cell? ⟨g7, 0, none⟩ = some (.int .i64 p0) ∧ V.cell? ⟨g7, 1, none⟩ = some (.int .i64 p1) ∧ V.cell? ⟨g7, 2, none⟩ = some (.int .i64 p2) ∧ V.cell? ⟨g7, 3, none⟩ = some (.int .i64 p3) ∧ V.cell? ⟨g7, 4, none⟩ = some (.int .i64 p4) ∧ V.cell? ⟨g7, 5, none⟩ = some (.int .u64 p5) ∧ V.cell? ⟨g7, 6, none⟩ = some (.int .i64 p6)) ∧ (V.cell? ⟨g8, 0, none⟩ = some (.int .i64 p0) ∧ V.cell? ⟨g8, 1, none⟩ = some (.int .i64 p1) ∧ V.cell? ⟨g8, 2, none⟩ = some (.int .i64 p2) ∧ V.cell? ⟨g8, 3, none⟩ = some (.int .i64 p3) ∧ V.cell? ⟨g8, 4, none⟩ = some (.int .i64 p4) ∧ V.cell? ⟨g8, 5, none⟩ = some (.int .u64 q5) ∧ V.cell? ⟨g8, 6, none⟩ = some (.int .i64 q6)) ∧ (convert 26 9 (.slice ab BX.length cb)).run Try.prog V = .ok (.string ⟨BX.toArray⟩) V ∧ (convert 26 9 (.slice ac BY.length cc2)).run Try.prog V = .ok (.string ⟨BY.toArray⟩) V) (exact SH.out _ (Fr.refl _ _).drew) (fail) | fail)
                  all_goals (go_wp2_with fail; go_meet; exact ⟨rfl, (Fr.refl _ _).drew⟩)
              · have dd : (p4 == q4) = false := by simpa using e4
                have ds : (BX == BY) = false := beq_eq_false_iff_ne.2 (fun e => e4 (congrArg Ins.cc (HINJ.out e)))
                clear e4
                clear HINJ HEQ HPART HFULL HN HB HB1
                have t1 : ((BX.length : Int) == 0) = false := by simp; intro e; simp [e] at b0
                have t2 : decide ((10 : Int) < (BX.length : Int)) = false := by simp; omega
                have t3 : ¬ BX = [] := by rintro rfl; simp at b0
                (first | go_region_held3 (fun V => (V.cell? ⟨g7, 0, none⟩ = some (.int .i64 p0) ∧ V.cell? ⟨g7, 1, none⟩ = some (.int .i64 p1) ∧ V.cell? ⟨g7, 2, none⟩ = some (.int .i64 p2) ∧ V.cell? ⟨g7, 3, none⟩ = some (.int .i64 p3) ∧ V.cell? ⟨g7, 4, none⟩ = some (.int .i64 p4) ∧ V.cell? ⟨g7, 5, none⟩ = some (.int .u64 p5) ∧ V.cell? ⟨g7, 6, none⟩ = some (.int .i64 p6)) ∧ (V.cell? ⟨g8, 0, none⟩ = some (.int .i64 p0) ∧ V.cell? ⟨g8, 1, none⟩ = some (.int .i64 p1) ∧ V.cell? ⟨g8, 2, none⟩ = some (.int .i64 p2) ∧ V.cell? ⟨g8, 3, none⟩ = some (.int .i64 p3) ∧ V.cell? ⟨g8, 4, none⟩ = some (.int .i64 q4) ∧ V.cell? ⟨g8, 5, none⟩ = some (.int .u64 q5) ∧ V.cell? ⟨g8, 6, none⟩ = some (.int .i64 q6)) ∧ (convert 26 9 (.slice ab BX.length cb)).run Try.prog V = .ok (.string ⟨BX.toArray⟩) V ∧ (convert 26 9 (.slice ac BY.length cc2)).run Try.prog V = .ok (.string ⟨BY.toArray⟩) V) (exact SH.out _ (Fr.refl _ _).drew) (fail) | fail)
                all_goals (go_wp2_with fail; go_meet; exact ⟨rfl, (Fr.refl _ _).drew⟩)
            · have dd : (p3 == q3) = false := by simpa using e3
              have ds : (BX == BY) = false := beq_eq_false_iff_ne.2 (fun e => e3 (congrArg Ins.alu (HINJ.out e)))
              clear e3
              clear HINJ HEQ HPART HFULL HN HB HB1
              have t1 : ((BX.length : Int) == 0) = false := by simp; intro e; simp [e] at b0
              have t2 : decide ((10 : Int) < (BX.length : Int)) = false := by simp; omega
              have t3 : ¬ BX = [] := by rintro rfl; simp at b0
              (first | go_region_held3 (fun V => (V.cell? ⟨g7, 0, none⟩ = some (.int .i64 p0) ∧ V.cell? ⟨g7, 1, none⟩ = some (.int .i64 p1) ∧ V.cell? ⟨g7, 2, none⟩ = some (.int .i64 p2) ∧ V.cell? ⟨g7, 3, none⟩ = some (.int .i64 p3) ∧ V.cell? ⟨g7, 4, none⟩ = some (.int .i64 p4) ∧ V.cell? ⟨g7, 5, none⟩ = some (.int .u64 p5) ∧ V.cell? ⟨g7, 6, none⟩ = some (.int .i64 p6)) ∧ (V.cell? ⟨g8, 0, none⟩ = some (.int .i64 p0) ∧ V.cell? ⟨g8, 1, none⟩ = some (.int .i64 p1) ∧ V.cell? ⟨g8, 2, none⟩ = some (.int .i64 p2) ∧ V.cell? ⟨g8, 3, none⟩ = some (.int .i64 q3) ∧ V.cell? ⟨g8, 4, none⟩ = some (.int .i64 q4) ∧ V.cell? ⟨g8, 5, none⟩ = some (.int .u64 q5) ∧ V.cell? ⟨g8, 6, none⟩ = some (.int .i64 q6)) ∧ (convert 26 9 (.slice ab BX.length cb)).run Try.prog V = .ok (.string ⟨BX.toArray⟩) V ∧ (convert 26 9 (.slice ac BY.length cc2)).run Try.prog V = .ok (.string ⟨BY.toArray⟩) V) (exact SH.out _ (Fr.refl _ _).drew) (fail) | fail)
              all_goals (go_wp2_with fail; go_meet; exact ⟨rfl, (Fr.refl _ _).drew⟩)
          · have dd : (p2 == q2) = false := by simpa using e2
            have ds : (BX == BY) = false := beq_eq_false_iff_ne.2 (fun e => e2 (congrArg Ins.b (HINJ.out e)))
            clear e2
            clear HINJ HEQ HPART HFULL HN HB HB1
            have t1 : ((BX.length : Int) == 0) = false := by simp; intro e; simp [e] at b0
            have t2 : decide ((10 : Int) < (BX.length : Int)) = false := by simp; omega
            have t3 : ¬ BX = [] := by rintro rfl; simp at b0
            (first | go_region_held3 (fun V => (V.cell? ⟨g7, 0, none⟩ = some (.int .i64 p0) ∧ V.cell? ⟨g7, 1, none⟩ = some (.int .i64 p1) ∧ V.cell? ⟨g7, 2, none⟩ = some (.int .i64 p2) ∧ V.cell? ⟨g7, 3, none⟩ = some (.int .i64 p3) ∧ V.cell? ⟨g7, 4, none⟩ = some (.int .i64 p4) ∧ V.cell? ⟨g7, 5, none⟩ = some (.int .u64 p5) ∧ V.cell? ⟨g7, 6, none⟩ = some (.int .i64 p6)) ∧ (V.cell? ⟨g8, 0, none⟩ = some (.int .i64 p0) ∧ V.cell? ⟨g8, 1, none⟩ = some (.int .i64 p1) ∧ V.cell? ⟨g8, 2, none⟩ = some (.int .i64 q2) ∧ V.cell? ⟨g8, 3, none⟩ = some (.int .i64 q3) ∧ V.cell? ⟨g8, 4, none⟩ = some (.int .i64 q4) ∧ V.cell? ⟨g8, 5, none⟩ = some (.int .u64 q5) ∧ V.cell? ⟨g8, 6, none⟩ = some (.int .i64 q6)) ∧ (convert 26 9 (.slice ab BX.length cb)).run Try.prog V = .ok (.string ⟨BX.toArray⟩) V ∧ (convert 26 9 (.slice ac BY.length cc2)).run Try.prog V = .ok (.string ⟨BY.toArray⟩) V) (exact SH.out _ (Fr.refl _ _).drew) (fail) | fail)
            all_goals (go_wp2_with fail; go_meet; exact ⟨rfl, (Fr.refl _ _).drew⟩)
        · have dd : (p1 == q1) = false := by simpa using e1
          have ds : (BX == BY) = false := beq_eq_false_iff_ne.2 (fun e => e1 (congrArg Ins.a (HINJ.out e)))
          clear e1
          clear HINJ HEQ HPART HFULL HN HB HB1
          have t1 : ((BX.length : Int) == 0) = false := by simp; intro e; simp [e] at b0
          have t2 : decide ((10 : Int) < (BX.length : Int)) = false := by simp; omega
          have t3 : ¬ BX = [] := by rintro rfl; simp at b0
          (first | go_region_held3 (fun V => (V.cell? ⟨g7, 0, none⟩ = some (.int .i64 p0) ∧ V.cell? ⟨g7, 1, none⟩ = some (.int .i64 p1) ∧ V.cell? ⟨g7, 2, none⟩ = some (.int .i64 p2) ∧ V.cell? ⟨g7, 3, none⟩ = some (.int .i64 p3) ∧ V.cell? ⟨g7, 4, none⟩ = some (.int .i64 p4) ∧ V.cell? ⟨g7, 5, none⟩ = some (.int .u64 p5) ∧ V.cell? ⟨g7, 6, none⟩ = some (.int .i64 p6)) ∧ (V.cell? ⟨g8, 0, none⟩ = some (.int .i64 p0) ∧ V.cell? ⟨g8, 1, none⟩ = some (.int .i64 q1) ∧ V.cell? ⟨g8, 2, none⟩ = some (.int .i64 q2) ∧ V.cell? ⟨g8, 3, none⟩ = some (.int .i64 q3) ∧ V.cell? ⟨g8, 4, none⟩ = some (.int .i64 q4) ∧ V.cell? ⟨g8, 5, none⟩ = some (.int .u64 q5) ∧ V.cell? ⟨g8, 6, none⟩ = some (.int .i64 q6)) ∧ (convert 26 9 (.slice ab BX.length cb)).run Try.prog V = .ok (.string ⟨BX.toArray⟩) V ∧ (convert 26 9 (.slice ac BY.length cc2)).run Try.prog V = .ok (.string ⟨BY.toArray⟩) V) (exact SH.out _ (Fr.refl _ _).drew) (fail) | fail)
          all_goals (go_wp2_with fail; go_meet; exact ⟨rfl, (Fr.refl _ _).drew⟩)
      · have dd : (p0 == q0) = false := by simpa using e0
        have ds : (BX == BY) = false := beq_eq_false_iff_ne.2 (fun e => e0 (congrArg Ins.op (HINJ.out e)))
        clear e0
        clear HINJ HEQ HPART HFULL HN HB HB1
        have t1 : ((BX.length : Int) == 0) = false := by simp; intro e; simp [e] at b0
        have t2 : decide ((10 : Int) < (BX.length : Int)) = false := by simp; omega
        have t3 : ¬ BX = [] := by rintro rfl; simp at b0
        (first | go_region_held3 (fun V => (V.cell? ⟨g7, 0, none⟩ = some (.int .i64 p0) ∧ V.cell? ⟨g7, 1, none⟩ = some (.int .i64 p1) ∧ V.cell? ⟨g7, 2, none⟩ = some (.int .i64 p2) ∧ V.cell? ⟨g7, 3, none⟩ = some (.int .i64 p3) ∧ V.cell? ⟨g7, 4, none⟩ = some (.int .i64 p4) ∧ V.cell? ⟨g7, 5, none⟩ = some (.int .u64 p5) ∧ V.cell? ⟨g7, 6, none⟩ = some (.int .i64 p6)) ∧ (V.cell? ⟨g8, 0, none⟩ = some (.int .i64 q0) ∧ V.cell? ⟨g8, 1, none⟩ = some (.int .i64 q1) ∧ V.cell? ⟨g8, 2, none⟩ = some (.int .i64 q2) ∧ V.cell? ⟨g8, 3, none⟩ = some (.int .i64 q3) ∧ V.cell? ⟨g8, 4, none⟩ = some (.int .i64 q4) ∧ V.cell? ⟨g8, 5, none⟩ = some (.int .u64 q5) ∧ V.cell? ⟨g8, 6, none⟩ = some (.int .i64 q6)) ∧ (convert 26 9 (.slice ab BX.length cb)).run Try.prog V = .ok (.string ⟨BX.toArray⟩) V ∧ (convert 26 9 (.slice ac BY.length cc2)).run Try.prog V = .ok (.string ⟨BY.toArray⟩) V) (exact SH.out _ (Fr.refl _ _).drew) (fail) | fail)
        all_goals (go_wp2_with fail; go_meet; exact ⟨rfl, (Fr.refl _ _).drew⟩)
    case rest =>
      obtain ⟨rfl, hV⟩ := hcut
      have HV0 := Lib.hid hV
      clear hV HINJ HEQ
      have m1 : (BX.length : Int) ≤ (cb : Int) := by have := HB1.out.le; omega
      have m2 : (cb : Int) ≤ 9223372036854775807 := by have := HB1.out.cap; unfold maxLen at this; omega
      go_wp2_with fail
      go_loopw [13] (fun i wr => ∃ (k : Nat) (V : World), V = wr ∧ k ≤ BX.length ∧ i = .int .i64 k ∧ Hid (Fr [] W2 wr)) (fun i _ => BX.length - (intOf i).toNat)
      case atStart => exact ⟨0, _, rfl, by omega, rfl, HV0⟩
      case round =>
        obtain ⟨k, V, rfl, hk, rfl, hVV⟩ := hrel
        by_cases hlt : k < BX.length
        · have DEC := fun U (hU : Fr [] V U) => dec_bytes U ab cb k BX (HB1.out.fr (hVV.out.then0 hU)) hk _ _ _ _ _ _ _ _ _ (HPART.out k hlt)
          have m3 : (k : Int) ≤ (cb : Int) := by omega
          have m4 : (k : Int) < (BX.length : Int) := by omega
          go_wp2_with (go_at_call 12; refine (DEC _ (Fr.refl _ _)).mono ?_; rintro e V1 ⟨rfl, hf3⟩)
          go_roundw
          case rel => exact ⟨k + 1, _, rfl, by omega, by go_num, Lib.hid ((hVV.out.then0 hf3).alloc _)⟩
          case measure => simp [intOf]; omega
        · obtain rfl : k = BX.length := by omega
          obtain ⟨B1, hB1⟩ : ∃ B, [] ++ BX = B := ⟨_, rfl⟩
          obtain ⟨B2, hB2⟩ : ∃ B, B1 ++ bs = B := ⟨_, rfl⟩
          have HL := Lib.hid (show B1.length ≤ 10 ∧ B2.length ≤ 100 by subst hB2; subst hB1; simp; omega)
          have HD := Lib.hid (show decodeL B2 = (⟨p0, p1, p2, p3, p4, p5, p6⟩, (BX.length : Int), 0) by subst hB2; subst hB1; exact HFULL.out)
          have HB1E := Lib.hid hB1
          have HB2E := Lib.hid hB2
          have HB1V := Lib.hid (HB1.out.fr hVV.out)
          have HFV := Lib.hid (HF2.out.then0 hVV.out)
          have HNN : Hid (ab ≠ none) := Lib.hid (by
            rintro rfl
            rcases HB1.out.cells with h | ⟨g, o, e, _⟩
            · rw [h] at b0; simp at b0
            · cases e)
          clear hB1 hB2 HPART HFULL hlt
          go_wp2_with (first | (at_builtin; refine wpList_append_src rfl (.tmp 82) (.tmp 83) rfl V.heap.size _ [] rfl (OwnB.lit [] (heap_at rfl rfl) rfl (Nat.le_refl _) (by simp)) ab BX.length cb BX rfl rfl ((HB1V.out.fr ((Fr.refl [] V).alloc _)).cells) (fun e => absurd e (HNN.out)) B1 HB1E.out (Nat.le_trans HL.out.1 (by omega)) (by simp) ?_; intro v1 V1 hown1 hgr1; have hg1 := hgr1 V ((Fr.refl [] V).alloc _) (Nat.le_refl _)) | (at_builtin; refine wpList_append_src rfl (.tmp 84) (.tmp 85) rfl V.heap.size v1 B1 rfl hown1 a0 bs.length cap0 bs rfl rfl (HB.out.fr ((HFV.out).then0 hg1) (by simp)) HN.out B2 HB2E.out (Nat.le_trans HL.out.2 (by omega)) hg1.size ?_; intro v2 V2 hown2 hgr2; have hg2 := hgr2 V hg1 (Nat.le_refl _); obtain ⟨a2, cap2, rfl, hle2, hcm2, hbc2, hgg2⟩ := hown2.form) | (go_at_call 12; refine (dec_whole _ _ _ _ hbc2 (fun _ g o e => (hgg2 g o e).2.1) hle2 hcm2 _ _ _ _ _ _ _ _ _ HD.out).mono ?_; rintro e V3 ⟨rfl, hf3⟩; have hz3 := (SH.out _ ((hVV.out.then0 hg2).then0 hf3)).1; obtain ⟨r0, r1, r2, r3, r4, r5, r6⟩ := hz3; have lt7 := World.block_lt_of_cell? V3 _ r0; simp only at lt7) | (go_at_call 11; refine (awake_any _).mono ?_; rintro e V4 ⟨rfl, hf4⟩))
          go_ret
          exact ⟨rfl, ((HF2.out.then0 (hVV.out.then0 (hg2.then0 hf3))).alloc _).then0 hf4⟩
end Go.Proofs.Ytegnmnhdpnmnpaa
