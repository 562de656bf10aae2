/- dec.Ok, walked. -/
import Derived.Deep.RegionHeld3
import Derived.Deep.DeepCutAuto
import Derived.Deep.Light
import Derived.Deep.QuietTactic
import Derived.BigQuiet
import Derived.Laws.StructEq
import Derived.Test.YtegnmnhdpnmnpaaOk
namespace Go.Proofs.Ytegnmnhdpnmnpaa
set_option linter.unusedVariables false
set_option linter.unusedSimpArgs false
open Go.RowKit

def Ins.row (x : Ins) : Array Value := #[.int .i64 x.op, .int .i64 x.a, .int .i64 x.b, .int .i64 x.alu, .int .i64 x.cc, .int .u64 x.imm, .int .i64 x.disp]
def regB (r : Int) : Bool := decide (0 ≤ r) && decide (r ≤ 15)
/-- What else is asked of an instruction, by its kind. -/
def okCond (x : Ins) : Bool :=
  if x.op = 6 then decide (x.imm ≤ 4294967295)
  else if x.op = 7 then aluAll.contains x.alu
  else if x.op = 9 ∨ x.op = 10 then !decide (bits .and .i64 x.b 7 = 4) && wideB x.disp
  else if 11 ≤ x.op ∧ x.op ≤ 13 then wideB x.disp
  else if x.op = 14 then (groupOps 14).contains x.alu && shortB (wrap64 x.imm)
  else if x.op = 15 then (groupOps 15).contains x.alu
  else if x.op = 16 then (groupOps 16).contains x.alu && decide (x.imm ≤ 255)
  else if x.op = 17 ∨ x.op = 18 ∨ x.op = 21 ∨ x.op = 22 then wideB x.disp
  else if x.op = 19 then shortB x.disp
  else if x.op = 20 then condAll.contains x.cc && shortB x.disp
  else if x.op = 23 then decide (x.imm ≤ 255)
  else true
/-- What an instruction's kind does not name is nought. -/
def okRest (x : Ins) : Bool :=
  (decide (3 ≤ x.op ∧ x.op ≤ 13) || decide (x.a = 0)) && (decide (7 ≤ x.op ∧ x.op ≤ 10 ∨ 14 ≤ x.op ∧ x.op ≤ 16) || decide (x.b = 0)) &&
  (decide (x.op = 7 ∨ 14 ≤ x.op ∧ x.op ≤ 16) || decide (x.alu = 0)) && (decide (x.op = 20) || decide (x.cc = 0)) &&
  (decide (x.op = 5 ∨ x.op = 6 ∨ x.op = 14 ∨ x.op = 16 ∨ x.op = 23) || decide (x.imm = 0)) &&
  (decide (9 ≤ x.op ∧ x.op ≤ 13 ∨ 17 ≤ x.op ∧ x.op ≤ 22) || decide (x.disp = 0))
def okB (x : Ins) : Bool := decide (1 ≤ x.op ∧ x.op ≤ 23) && (regB x.a && regB x.b) && okCond x && okRest x

theorem intRow_cells (w : World) (l : List Int) : IntCells (w.alloc (intRow l)) w.heap.size l := fun i h => cell_of_heap (heap_new w _) (by simp [h])
theorem rowCells1 (W : World) (l : List Int) (g : Nat) (hg : g = W.heap.size) : IntCells (W.alloc (intRow l)) g l := by subst hg; exact intRow_cells W l
theorem IntCells.fr {w w1 : World} {g : Nat} {l : List Int} {S : List Nat} (h : IntCells w g l) (f : Fr S w w1) (hn : ¬ g ∈ S) : IntCells w1 g l := fun i hi => f.cell (h i hi) hn

theorem rowCells2 (W : World) (l : List Int) (o : Obj) (g : Nat) (hg : g = W.heap.size) : IntCells ((W.alloc (intRow l)).alloc o) g l := (rowCells1 W l g hg).fr ((Fr.refl [] _).alloc o) (by simp)

end Go.Proofs.Ytegnmnhdpnmnpaa
