/- What Encode tells, in plain Lean. -/
import Derived.Test.YtegnmnhdpnmnpaaDecSpec
namespace Go.Proofs.Ytegnmnhdpnmnpaa
set_option linter.unusedVariables false
set_option linter.unusedSimpArgs false

/-- A number's lowest byte. -/
def ub (z : Int) : UInt8 := UInt8.ofNat (z % 256).toNat
theorem ub_val (z : Int) : ((ub z).toNat : Int) = z % 256 := by
  unfold ub
  simp
  omega
theorem ub_id {z : Int} (h0 : 0 ≤ z) (h1 : z < 256) : ((ub z).toNat : Int) = z := by rw [ub_val]; omega
theorem ub_toNat (c : UInt8) : ub (c.toNat : Int) = c := by
  apply UInt8.toNat_inj.1
  have := ub_val (c.toNat : Int)
  have := c.toNat_lt
  omega

def rexI (a b : Int) : Int := 72 + (if 7 < a then 4 else 0) + (if 7 < b then 1 else 0)
def aheadL (a : Int) : List UInt8 := if 7 < a then [65] else []
/-- A number's lowest bytes, the lowest first. -/
def leB (v : Int) : Nat → List UInt8
  | 0 => []
  | n + 1 => ub v :: leB (v / 256) n
theorem leB_length : ∀ (n : Nat) (v : Int), (leB v n).length = n
  | 0, _ => rfl
  | n + 1, v => by simp [leB, leB_length n]

def codeOf (x : Ins) : Int :=
  if x.op = 7 then (if x.alu = 0 then 1 else if x.alu = 1 then 41 else if x.alu = 2 then 33 else if x.alu = 3 then 9 else if x.alu = 4 then 49 else if x.alu = 7 then 57 else 133)
  else if x.op = 14 then (if x.alu = 0 then 192 else if x.alu = 1 then 232 else 248)
  else if x.op = 15 then (if x.alu = 5 then 192 else 200)
  else (if x.alu = 9 then 224 else 232)

/-- The bytes of an instruction that may be. -/
def encL (x : Ins) : List UInt8 :=
  if x.op = 1 then [144]
  else if x.op = 2 then [195]
  else if x.op = 3 then aheadL x.a ++ [ub (80 + x.a % 8)]
  else if x.op = 4 then aheadL x.a ++ [ub (88 + x.a % 8)]
  else if x.op = 5 then [ub (rexI 0 x.a), ub (184 + x.a % 8)] ++ leB x.imm 8
  else if x.op = 6 then aheadL x.a ++ [ub (184 + x.a % 8)] ++ leB x.imm 4
  else if x.op = 7 then [ub (rexI x.a x.b), ub (codeOf x), ub (192 + 8 * (x.a % 8) + x.b % 8)]
  else if x.op = 8 then [ub (rexI x.a x.b), 137, ub (192 + 8 * (x.a % 8) + x.b % 8)]
  else if x.op = 9 then [ub (rexI x.a x.b), 139, ub (128 + 8 * (x.a % 8) + x.b % 8)] ++ leB x.disp 4
  else if x.op = 10 then [ub (rexI x.a x.b), 137, ub (128 + 8 * (x.a % 8) + x.b % 8)] ++ leB x.disp 4
  else if x.op = 11 then [ub (rexI x.a 0), 139, ub (0 + 8 * (x.a % 8) + 5 % 8)] ++ leB x.disp 4
  else if x.op = 12 then [ub (rexI x.a 0), 137, ub (0 + 8 * (x.a % 8) + 5 % 8)] ++ leB x.disp 4
  else if x.op = 13 then [ub (rexI x.a 0), 141, ub (0 + 8 * (x.a % 8) + 5 % 8)] ++ leB x.disp 4
  else if x.op = 14 then [ub (rexI 0 x.b), 131, ub (codeOf x + x.b % 8), ub x.imm]
  else if x.op = 15 then [ub (rexI 0 x.b), 255, ub (codeOf x + x.b % 8)]
  else if x.op = 16 then [ub (rexI 0 x.b), 193, ub (codeOf x + x.b % 8), ub x.imm]
  else if x.op = 17 then [232] ++ leB x.disp 4
  else if x.op = 18 then [233] ++ leB x.disp 4
  else if x.op = 19 then [235, ub x.disp]
  else if x.op = 20 then [ub (112 + x.cc), ub x.disp]
  else if x.op = 21 then [255, 21] ++ leB x.disp 4
  else if x.op = 22 then [255, 37] ++ leB x.disp 4
  else [205, ub x.imm]
end Go.Proofs.Ytegnmnhdpnmnpaa
