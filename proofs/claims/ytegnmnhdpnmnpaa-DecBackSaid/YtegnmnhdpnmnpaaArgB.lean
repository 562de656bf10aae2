/- A []byte that came in: its bytes, its bounds. -/
import Derived.Test.YtegnmnhdpnmnpaaRows
import Derived.WalkKit
import Derived.ProofKit
import Derived.OpenShut
import Derived.ShutString
import Derived.ChangeOld
import Derived.Below
import Derived.SizedLaws
import Derived.Test.YtegnmnhdpnmnpaaEncSpec
import Derived.Test.YtegnmnhdpnmnpaaBase
namespace Go.Proofs.Ytegnmnhdpnmnpaa
set_option linter.unusedVariables false
set_option linter.unusedSimpArgs false
open Go.ChangeShapes Go.WideShapes Go.ChangeAt Go.RowKit

theorem own0 : ownKnob Try.prog.godebug = none := by kernel_rfl
theorem laidOut0 : laidOutB Try.prog = true := by kernel_rfl

/-- What the walk is told of a []byte that came in. -/
structure ArgB (w : World) (a : Option Addr) (len cap : Nat) (bs : List UInt8) : Prop where
  len_eq : bs.length = len
  cells : ByteCells w a bs
  lt : bs ≠ [] → ∀ g o, a = some ⟨g, o, none⟩ → g < w.heap.size
  nil : a = none → bs = []
  nil0 : a = none → cap = 0
  le : len ≤ cap
  cap : cap ≤ 140737488351232

theorem argB_open {H : Type} {enc : TypeId × Value → H} {w : World} {a : Option Addr} {len cap : Nat} {d : DataW H} {p : List MemPlace}
    (h : DataW.Trod enc Try.prog w 0 (fun _ => true) true 26 (.slice a len cap) d p)
    {ts : List TypeId} {ds : List (DataW H)} (hsz : (DataW.weightsEach Try.prog ts ds).all (· ≤ reachBytes) = true) {j : Nat} (ht : ts[j]? = some 26) (hd : ds[j]? = some d) : ∃ bs, ArgB w a len cap bs := by
  obtain ⟨fuel, hf⟩ := h
  rcases open_ints Try.underlying26 Try.underlying5 (by kernel_rfl) hf with ⟨hcs, _⟩ | ⟨x, l, c, zs, hcs, _, hl, hm, hz, hx, hcell, hwz⟩
  · simp [Value.cells] at hcs
    obtain ⟨rfl, rfl, rfl⟩ := hcs
    exact ⟨[], rfl, .inl rfl, fun h => absurd rfl h, fun _ => rfl, fun _ => rfl, Nat.le_refl _, by omega⟩
  · simp [Value.cells] at hcs
    obtain ⟨rfl, rfl, rfl⟩ := hcs
    simp only [Prod.mk.injEq] at hx
    obtain ⟨rfl, _⟩ := hx
    have hz' : zs.length = cap := by simpa using hz
    have hcap : cap ≤ 140737488351232 := by
      have := sized_slice hsz (j := j) (t := 26) (e := 5) ht hd Try.underlying26
      rw [show Try.prog.bytesOf 5 = 1 by kernel_rfl] at this
      simp only [lits, List.length_map, List.length_take, List.length_drop, reachBytes] at this
      omega
    refine ⟨(zs.take len).map ub, by simp; omega, ?_, ?_, (fun h => by cases h), (fun h => by cases h), hl, hcap⟩
    · by_cases h0 : zs.length = 0
      · have : zs = [] := List.eq_nil_of_length_eq_zero h0
        subst this
        exact .inl (by simp)
      · obtain ⟨b, off, rfl, hc⟩ := ints_at hcell (by omega)
        refine .inr ⟨b, off, rfl, fun i hi => ?_⟩
        simp only [List.length_map, List.length_take] at hi
        rw [hc i (by omega)]
        have hw := hwz (zs.getD i 0) (by rw [List.getD_eq_getElem?_getD, List.getElem?_eq_getElem (by omega)]; exact List.getElem_mem _)
        have hb : 0 ≤ zs.getD i 0 ∧ zs.getD i 0 ≤ 255 := by
          have h1 : IntKind.u8.min = 0 := rfl
          have h2 : IntKind.u8.max = 255 := rfl
          simp only [Lit.wf, Bool.and_eq_true, decide_eq_true_eq, h1, h2] at hw
          exact hw
        have e : ((zs.take len).map ub)[i]'(by simp; omega) = ub (zs.getD i 0) := by
          simp [List.getD_eq_getElem?_getD, List.getElem?_eq_getElem (show i < zs.length by omega)]
        rw [e, ub_id hb.1 (by omega)]
    · intro hn g o e
      cases e
      have h0 : zs.length ≠ 0 := fun h0 => hn (by
        have : zs = [] := List.eq_nil_of_length_eq_zero h0
        subst this
        simp)
      obtain ⟨b, off, e2, hc⟩ := ints_at hcell (by omega)
      cases e2
      exact World.block_lt_of_cell? w _ (hc 0 (by omega))
end Go.Proofs.Ytegnmnhdpnmnpaa
