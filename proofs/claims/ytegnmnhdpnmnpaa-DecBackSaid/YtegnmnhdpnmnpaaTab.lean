/- The table of forms in memory; Table.add. -/
import Derived.Deep.RegionHeld3
import Derived.Deep.AppendLies
import Derived.Deep.RegionLaw
import Derived.BigRegion
import Derived.Deep.DeepCutAuto
import Derived.Deep.Light
import Derived.Test.YtegnmnhdpnmnpaaFits
import Derived.Test.YtegnmnhdpnmnpaaFrames
namespace Go.Proofs.Ytegnmnhdpnmnpaa
set_option linter.unusedVariables false
set_option linter.unusedSimpArgs false
open Go.RowKit

def formCells (f : Form) (b : Nat) : List Value :=
  [.slice (some ⟨b, 0, none⟩) f.steps.length f.steps.length, .int .i64 (f.more : Int), .int .i64 (f.op : Int), .int .i64 (f.alu : Int), .int .i64 (f.cc : Int)]

def formsCells : List Form → List Nat → List Value
  | f :: fs, b :: bs => formCells f b ++ formsCells fs bs
  | _, _ => []

theorem formsCells_append : ∀ (fs : List Form) (bs : List Nat) (f : Form) (b : Nat), fs.length = bs.length → formsCells (fs ++ [f]) (bs ++ [b]) = formsCells fs bs ++ formCells f b
  | [], [], f, b, _ => by simp [formsCells]
  | g :: fs, c :: bs, f, b, h => by simp only [List.cons_append, formsCells, formsCells_append fs bs f b (by simpa using h), List.append_assoc]
  | [], _ :: _, _, _, h => by simp at h
  | _ :: _, [], _, _, h => by simp at h

/-- The slice v holds forms; its row, and the rows of the forms' steps, lie from block B on. -/
def FormsAt (B : Nat) (w : World) (v : Value) (fs : List Form) : Prop :=
  ∃ bs : List Nat, fs.length = bs.length ∧ w.ownsRow B 90 5 v fs.length (formsCells fs bs) ∧
    ∀ i (h1 : i < fs.length) (h2 : i < bs.length), B ≤ bs[i] ∧ w.heap[bs[i]]? = some (.cells (stepCells fs[i].steps).toArray 99 (0, 0))

theorem FormsAt.nil (B : Nat) (w : World) : FormsAt B w (.slice none 0 0) [] := ⟨[], rfl, World.ownsRow_nil _ _ _ _, fun i h1 => by simp at h1⟩

theorem FormsAt.fr {B : Nat} {S : List Nat} {w w1 : World} {v : Value} {fs : List Form} (h : FormsAt B w v fs) (f : Fr S w w1) (hS : ∀ k, k ∈ S → k < B) : FormsAt B w1 v fs := by
  obtain ⟨bs, hl, hown, hst⟩ := h
  refine ⟨bs, hl, ⟨hown.1, ?_⟩, fun i h1 h2 => ⟨(hst i h1 h2).1, f.heap (hst i h1 h2).2 (fun hk => by have := hS _ hk; have := (hst i h1 h2).1; omega)⟩⟩
  rcases hown.2 with hn | ⟨g, cap, cur, hv, hg, hh, r⟩
  · exact .inl hn
  · exact .inr ⟨g, cap, cur, hv, hg, f.heap hh (fun hk => by have := hS _ hk; omega), r⟩

/-- The table's block, what its forms are, and what else has changed since w0: nothing that was there. -/
def TabIs (w0 w : World) (t : Nat) (c0 c1 c2 : Value) (fs : List Form) : Prop :=
  ∃ v, w.heap[t]? = some (.cells #[c0, c1, c2, v] 69 (0, 0)) ∧ FormsAt w0.heap.size w v fs ∧ Fr [t] w0 w

theorem TabIs.alloc {w0 w : World} {t : Nat} {c0 c1 c2 : Value} {fs : List Form} (h : TabIs w0 w t c0 c1 c2 fs) (o : Obj) : TabIs w0 (w.alloc o) t c0 c1 c2 fs := by
  obtain ⟨v, h1, h2, h3⟩ := h
  exact ⟨v, heap_old o h1, h2.fr ((Fr.refl [] w).alloc o) (by simp), h3.alloc o⟩
theorem TabIs.drew {w0 w : World} {t : Nat} {c0 c1 c2 : Value} {fs : List Form} (h : TabIs w0 w t c0 c1 c2 fs) : TabIs w0 w.drew t c0 c1 c2 fs := by
  obtain ⟨v, h1, h2, h3⟩ := h
  exact ⟨v, h1, h2.fr ((Fr.refl [] w).drew) (by simp), h3.drew⟩

theorem Try.infoForm : (Try.prog.info? 90).map (fun i => (i.zero, i.size, i.bytes)) = some (some (.agg #[.slice none 0 0, .int .i64 0, .int .i64 0, .int .i64 0, .int .i64 0]), 5, 56) := by kernel_rfl

theorem add_end {w0 w W w1 : World} {t sb gg cap : Nat} {c0 c1 c2 v : Value} {fs : List Form} {bs : List Nat} {f : Form} {o : Obj}
    (HF : Fr [t] w0 w) (HT : w.heap[t]? = some (.cells #[c0, c1, c2, v] 69 (0, 0))) (hbl : fs.length = bs.length)
    (hst : ∀ i (h1 : i < fs.length) (h2 : i < bs.length), w0.heap.size ≤ bs[i] ∧ w.heap[bs[i]]? = some (.cells (stepCells fs[i].steps).toArray 99 (0, 0)))
    (hsb : w0.heap.size ≤ sb) (hs : w.heap[sb]? = some (.cells (stepCells f.steps).toArray 99 (0, 0))) (hW : Fr [] w W) (hblk : v.ownBlock ≠ some t)
    (hown : w.ownsRow w0.heap.size 90 5 v fs.length (formsCells fs bs))
    (hown1 : w1.ownsRow w0.heap.size 90 5 (.slice (some ⟨gg, 0, none⟩) (fs.length + 1) cap) (fs.length + 1) (formsCells fs bs ++ formCells f sb))
    (hgrow : (W.alloc o).drew.grownBy w1 v.ownBlock) :
    TabIs w0 (w1.setCell ⟨t, 3, none⟩ (.slice (some ⟨gg, 0, none⟩) (fs.length + 1) cap)) t c0 c1 c2 (fs ++ [f]) ∧
      KT [some 69, some 90] w (w1.setCell ⟨t, 3, none⟩ (.slice (some ⟨gg, 0, none⟩) (fs.length + 1) cap)) := by
  have hown2 := hown.lt
  have fr1 : Fr v.ownBlock.toList w w1 := ((hW.alloc o).drew.of0 (S := v.ownBlock.toList)).grown hgrow (fun k hk => .inl (by simp [hk]))
  have step : ∀ k c, w.heap[k]? = some (.cells c 99 (0, 0)) → ¬ k ∈ v.ownBlock.toList := by
    intro k c hk hm
    rcases hown.2 with ⟨rfl, _⟩ | ⟨g, cap', cur, rfl, hg, hh, _⟩
    · simp [Value.ownBlock] at hm
    · simp [Value.ownBlock] at hm
      subst hm
      rw [hh] at hk
      simp at hk
  have t1 : w1.heap[t]? = some (.cells #[c0, c1, c2, v] 69 (0, 0)) := fr1.heap HT (by simpa using hblk)
  have frt : Fr [t] w1 (w1.setCell ⟨t, 3, none⟩ (.slice (some ⟨gg, 0, none⟩) (fs.length + 1) cap)) := (Fr.refl [t] w1).setCell (.inl (by simp)) _
  have hgt : gg ≠ t := by
    rintro rfl
    rcases hown1.2 with ⟨h, _⟩ | ⟨g, cap', cur, hv, hg, hh, _⟩
    · simp at h
    · simp at hv
      obtain ⟨rfl, _⟩ := hv
      rw [t1] at hh
      simp at hh
  refine ⟨?_, ?_⟩
  case refine_2 =>
    have k1 : KT [some 69, some 90] w w1 := ⟨fr1.size, fun i o ho hn => fr1.heap ho (fun hm => by
      rcases hown.2 with ⟨rfl, _⟩ | ⟨g, cap', cur, rfl, hg, hh, _⟩
      · simp [Value.ownBlock] at hm
      · simp [Value.ownBlock] at hm
        subst hm
        rw [hh] at ho
        cases ho
        exact hn (by simp [otag]))⟩
    exact k1.setCell (p := ⟨t, 3, none⟩) t1 (by simp [otag]) _
  refine ⟨.slice (some ⟨gg, 0, none⟩) (fs.length + 1) cap, ?_, ⟨bs ++ [sb], by simp [hbl], ?_, ?_⟩, ?_⟩
  · have hlt := lt_of_heap t1
    simp only [World.setCell, Array.getElem?_modify, t1]
    simp
  · have e : (fs ++ [f]).length = fs.length + 1 := by simp
    rw [e, formsCells_append fs bs f sb hbl]
    exact hown1.kept (row := some t) ⟨frt.os, frt.tape, frt.output, frt.size, fun k hk hne => frt.block k hk (by simpa using fun e => hne (by rw [e]))⟩ (.inr (by simpa [Value.ownBlock] using hgt))
  · intro i h1 h2
    have key : ∀ (k : Nat) (c : Array Value), w.heap[k]? = some (.cells c 99 (0, 0)) → (w1.setCell ⟨t, 3, none⟩ (.slice (some ⟨gg, 0, none⟩) (fs.length + 1) cap)).heap[k]? = some (.cells c 99 (0, 0)) := fun k c hk => by
      refine frt.heap (fr1.heap hk (step k c hk)) ?_
      simp only [List.mem_singleton]
      rintro rfl
      rw [HT] at hk
      simp at hk
    by_cases hi : i < fs.length
    · have := hst i hi (by omega)
      simp only [List.getElem_append_left hi, List.getElem_append_left (show i < bs.length by omega)]
      exact ⟨this.1, key _ _ this.2⟩
    · have ei : i = fs.length := by simp at h1; omega
      subst ei
      simp only [hbl, List.getElem_append_right (Nat.le_refl _), Nat.sub_self, List.getElem_cons_zero]
      have : (fs ++ [f])[fs.length]'(by simp) = f := by simp
      exact ⟨hsb, by simpa [hbl] using key _ _ hs⟩
  · refine (HF.trans' fr1 ?_).trans frt
    intro b hb
    exact .inr (hown2 b (by simpa using hb)).1

set_option maxRecDepth 100000 in
set_option maxHeartbeats 16000000 in
theorem add_any (w0 w : World) (t : Nat) (ht0 : t < w0.heap.size) (c0 c1 c2 : Value) (fs : List Form) (hT : TabIs w0 w t c0 c1 c2 fs) (hlen : fs.length < 100) (f : Form) (op more alu cc : Int) (sb : Nat) (hsb : w0.heap.size ≤ sb) (n : Nat) (hn : n = f.steps.length)
    (hst : w.heap[sb]? = some (.cells (stepCells f.steps).toArray 99 (0, 0))) (e1 : op = (f.op : Int)) (e2 : more = (f.more : Int)) (e3 : alu = (f.alu : Int)) (e4 : cc = (f.cc : Int)) :
    Calls Try.prog 61 #[.pointer (some ⟨t, 0, none⟩), .agg #[.int .i64 op, .int .i64 0, .int .i64 0, .int .i64 alu, .int .i64 cc, .int .u64 0, .int .i64 0], .int .i64 more, .slice (some ⟨sb, 0, none⟩) n n] w
      fun e w' => e = .returned (.tuple #[]) ∧ TabIs w0 w' t c0 c1 c2 (fs ++ [f]) ∧ KT [some 69, some 90] w w' := by
  obtain ⟨i0, hi0, hz0, hz1, hz2⟩ := info_parts Try.infoForm
  obtain ⟨v, ht, ⟨bs, hbl, hown, hsts⟩, hfr⟩ := hT
  have lt := lt_of_heap ht
  have tc := cell_of_heap (i := 3) ht rfl
  have tf : w.frozen? ⟨t, 3, none⟩ = false := frozen_of_heap ht
  have HT := Lib.hid ht
  have HST := Lib.hid hst
  have HSTS := Lib.hid hsts
  have hlen2 := Lib.hid hlen
  have HBL := Lib.hid hbl
  have hblk : v.ownBlock ≠ some t := by
    intro e
    have := (hown.lt t e).1
    omega
  subst e1 e2 e3 e4
  subst hn
  clear ht hst hsts hlen hbl
  go_enter Try.func61, Try.ntmps61
  go_wp2_with fail
  refine wp_world (fun W => Fr [] w W ∧ W.heap[w.heap.size]? = some (.cells #[.int .i64 f.op, .int .i64 0, .int .i64 0, .int .i64 f.alu, .int .i64 f.cc, .int .u64 0, .int .i64 0] 24 (0, 0)))
    ⟨(Fr.refl [] w).alloc _, heap_new _ _⟩ ?_
  rintro W ⟨hW, hbox⟩
  obtain ⟨x0, x1, x2, x3, x4, x5, x6, xf⟩ := cells7 hbox
  have tc' := hW.cell tc (by simp)
  have tf' : W.frozen? ⟨t, 3, none⟩ = false := (hW.frozen lt (by simp)).trans tf
  have hownW : W.ownsRow w0.heap.size 90 5 v fs.length (formsCells fs bs) := hown.kept (row := none) ⟨hW.os, hW.tape, hW.output, hW.size, fun k hk _ => hW.block k hk (by simp)⟩ (by cases v.ownBlock <;> simp)
  have HF := Lib.hid hfr
  have hlt' := hW.lt lt
  clear x1 x2 x5 x6 xf hbox tc tf hfr
  obtain ⟨B, hB⟩ : ∃ B, B = w.heap.size := ⟨_, rfl⟩
  have hBW : w.heap.size < W.heap.size := World.block_lt_of_cell? W _ x0
  have hneW : (⟨t, 3, none⟩ : Addr).block ≠ W.heap.size := by simp; omega
  have hfz : ∀ o, (W.alloc o).frozen? ⟨t, 3, none⟩ = false := fun o => (World.frozen?_alloc_old W o _ hneW).trans tf'
  have hneB : v.ownBlock ≠ some w.heap.size := by
    intro e
    have := (hown.lt _ e).2
    omega
  go_region_law ((refine step_append_lies _ (by rfl) _ _ _ (by rfl) w0.heap.size 90 i0 _ 5 56 Try.underlying67 hi0 hz0 hz1 hz2 rfl (by omega) v fs.length (formsCells fs bs) (by rfl) ((hownW.alloc _).drew) ⟨W.heap.size, 0, none⟩ 1 1 (formCells f sb) (by rfl) (by rfl) (World.news_of_block (cs := (formCells f sb).toArray) (t := 90) (fr := (0, 0)) (heap_alloc_new W _)) (by simp [Value.oneCell', formCells]) (by omega) (by unfold maxLen; have := hlen2.out; omega) (by have := hlen2.out; omega) (by have := HF.out.size; have := hW.size; simp; omega) (W.heap.size + 1) (by simp) ?_; intro gg cap w1 hown1 hgrow hat hlt; have tf1 : w1.frozen? ⟨t, 3, none⟩ = false := (hgrow.frozen_far _ (by simp; omega) (Ne.symm hblk)).trans (hfz _); have tc1 : w1.cell? ⟨t, 3, none⟩ = some v := (hgrow.cell_far _ (by simp; omega) (Ne.symm hblk)).trans ((World.cell?_alloc_lt W _ _ hlt').trans tc')))
  all_goals
    go_end0
    have fin := add_end HF.out HT.out HBL.out HSTS.out hsb HST.out hW hblk hown hown1 hgrow
    exact ⟨rfl, fin⟩
end Go.Proofs.Ytegnmnhdpnmnpaa
