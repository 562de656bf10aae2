/- What a call keeps, told by the blocks' kinds. -/
import Derived.Test.YtegnmnhdpnmnpaaBase
namespace Go.Proofs.Ytegnmnhdpnmnpaa
set_option linter.unusedVariables false
set_option linter.unusedSimpArgs false
open Go.RowKit

/-- What a block is: cells of a type, or something else. -/
def otag : Obj → Option TypeId
  | .cells _ e _ => some e
  | _ => none
/-- All blocks of other kinds than those of Ts are as they were. -/
structure KT (Ts : List (Option TypeId)) (w w' : World) : Prop where
  size : w.heap.size ≤ w'.heap.size
  keep : ∀ (k : Nat) (o : Obj), w.heap[k]? = some o → ¬ otag o ∈ Ts → w'.heap[k]? = some o
section
variable {Ts Us : List (Option TypeId)} {w w1 w2 : World}
theorem KT.refl (Ts : List (Option TypeId)) (w : World) : KT Ts w w := ⟨Nat.le_refl _, fun _ _ h _ => h⟩
theorem KT.trans (h : KT Ts w w1) (k : KT Ts w1 w2) : KT Ts w w2 := ⟨Nat.le_trans h.size k.size, fun i o ho hn => k.keep i o (h.keep i o ho hn) hn⟩
theorem KT.mono (h : KT Ts w w1) (hs : ∀ x, x ∈ Ts → x ∈ Us) : KT Us w w1 := ⟨h.size, fun i o ho hn => h.keep i o ho (fun hx => hn (hs _ hx))⟩
theorem KT.of_fr (h : Fr [] w w1) : KT Ts w w1 := ⟨h.size, fun i o ho _ => (h.block i (Array.getElem?_eq_some_iff.1 ho).1 (by simp)).trans ho⟩
theorem KT.then0 (h : KT Ts w w1) (k : Fr [] w1 w2) : KT Ts w w2 := h.trans (.of_fr k)
theorem KT.alloc (h : KT Ts w w1) (o : Obj) : KT Ts w (w1.alloc o) := h.then0 ((Fr.refl [] w1).alloc o)
theorem KT.drew (h : KT Ts w w1) : KT Ts w w1.drew := ⟨h.size, h.keep⟩
theorem KT.drewN (h : KT Ts w w1) (n : Nat) : KT Ts w (w1.drewN n) := ⟨h.size, h.keep⟩
theorem KT.step (h : KT Ts w w1) {b : Nat} {o : Obj} (ho : w1.heap[b]? = some o) (ht : otag o ∈ Ts) (f : Fr [b] w1 w2) : KT Ts w w2 :=
  ⟨Nat.le_trans h.size f.size, fun i x hx hn => f.heap (h.keep i x hx hn) (by
    simp only [List.mem_singleton]
    rintro rfl
    have := h.keep i x hx hn
    rw [this] at ho
    cases ho
    exact hn ht)⟩
theorem KT.setCell (h : KT Ts w w1) {p : Addr} {o : Obj} (ho : w1.heap[p.block]? = some o) (ht : otag o ∈ Ts) (v : Value) : KT Ts w (w1.setCell p v) :=
  h.step ho ht ((Fr.refl [p.block] w1).setCell (.inl (by simp)) v)
theorem KT.cell (h : KT Ts w w1) {a : Addr} {v : Value} {o : Obj} (hc : w.cell? a = some v) (ho : w.heap[a.block]? = some o) (hn : ¬ otag o ∈ Ts) : w1.cell? a = some v :=
  (World.cell?_of_block ((h.keep _ _ ho hn).trans ho.symm)).trans hc
end

end Go.Proofs.Ytegnmnhdpnmnpaa
