/- Instructions in plain Lean: the forms of package dec, and what Decode tells by them. No program in sight. -/
namespace Go.Proofs.Ytegnmnhdpnmnpaa
set_option linter.unusedVariables false
set_option linter.unusedSimpArgs false

/-- An instruction. -/
structure Ins where
  op : Int := 0
  a : Int := 0
  b : Int := 0
  alu : Int := 0
  cc : Int := 0
  imm : Int := 0
  disp : Int := 0
  deriving DecidableEq, Repr

/-- A form: what its bytes must be (mask, value), how many bytes of a number follow, and what it is. -/
structure Form where
  steps : List (Nat × Nat)
  more : Nat := 0
  op : Nat
  alu : Nat := 0
  cc : Nat := 0
  deriving DecidableEq, Repr

def Form.mem (f : Form) : Bool := f.op == 9 || f.op == 10

/-- Step i of a form, at a byte. -/
def stepOk (s : Nat × Nat) (c : UInt8) : Bool := c.toNat &&& s.1 == s.2

def fitsGo : List (Nat × Nat) → List UInt8 → Bool
  | s :: ss, c :: cs => stepOk s c && fitsGo ss cs
  | _, _ => true

/-- Do bytes, as far as they are there, stand as a form asks? -/
def Form.fits (f : Form) (bs : List UInt8) : Bool :=
  fitsGo f.steps bs && (!f.mem || decide (bs.length < f.steps.length) || !((bs.getD (f.steps.length - 1) 0).toNat &&& 7 == 4))

/-- Bytes' number, the lowest first. -/
def leNat : List UInt8 → Nat
  | [] => 0
  | c :: cs => c.toNat + 256 * leNat cs

/-- A number's lowest byte, or four of them, with its sign. -/
def sx8 (v : Int) : Int := (v + 128) % 256 - 128
def sx32 (v : Int) : Int := (v + 2147483648) % 4294967296 - 2147483648

/-- The instruction that the bytes of a form are. -/
def Form.ins (f : Form) (bs : List UInt8) : Ins :=
  let n := f.steps.length
  let l : Int := (bs.getD (n - 1) 0).toNat
  let b : Int := (bs.getD 0 0).toNat
  let v : Int := leNat (bs.drop n)
  let r := l / 8 % 8 + 8 * (b / 4 % 2)
  let m := l % 8 + 8 * (b % 2)
  { op := f.op, alu := f.alu, cc := f.cc
    a := if f.op = 3 ∨ f.op = 4 ∨ f.op = 6 then l % 8 + 8 * ((n : Int) - 1) else if f.op = 5 then m else if 7 ≤ f.op ∧ f.op ≤ 13 then r else 0
    b := if 7 ≤ f.op ∧ f.op ≤ 10 then m else if 14 ≤ f.op ∧ f.op ≤ 16 then m else 0
    imm := if f.op = 3 ∨ f.op = 4 ∨ f.op = 6 ∨ f.op = 5 then v else if f.op = 14 then sx8 v % 18446744073709551616 else if f.op = 15 ∨ f.op = 16 ∨ f.op = 23 then v else 0
    disp := if 9 ≤ f.op ∧ f.op ≤ 13 then sx32 v else if f.op = 17 ∨ f.op = 18 ∨ f.op = 21 ∨ f.op = 22 then sx32 v else if f.op = 19 ∨ f.op = 20 then sx8 v else 0 }

theorem leNat_lt : ∀ bs : List UInt8, leNat bs < 256 ^ bs.length
  | [] => by simp [leNat]
  | c :: cs => by
    have h1 := leNat_lt cs
    have h2 : c.toNat < 256 := c.toNat_lt
    simp only [leNat, List.length_cons, Nat.pow_succ]
    omega

theorem fitsGo_iff : ∀ (ss : List (Nat × Nat)) (bs : List UInt8), fitsGo ss bs = true ↔ ∀ i (h1 : i < ss.length) (h2 : i < bs.length), stepOk ss[i] bs[i] = true
  | [], bs => by simp [fitsGo]
  | s :: ss, [] => by simp [fitsGo]
  | s :: ss, c :: cs => by
    simp only [fitsGo, Bool.and_eq_true, fitsGo_iff ss cs]
    constructor
    · rintro ⟨h0, h⟩ i h1 h2
      cases i with
      | zero => exact h0
      | succ i => exact h i (by simpa using h1) (by simpa using h2)
    · intro h
      exact ⟨h 0 (by simp) (by simp), fun i h1 h2 => h (i + 1) (by simpa using h1) (by simpa using h2)⟩

theorem fitsGo_take_succ (ss : List (Nat × Nat)) (bs : List UInt8) (k : Nat) (h1 : k < ss.length) (h2 : k < bs.length) (h : fitsGo (ss.take k) bs = true) (hk : stepOk ss[k] bs[k] = true) : fitsGo (ss.take (k + 1)) bs = true := by
  rw [fitsGo_iff] at h ⊢
  intro i hi1 hi2
  simp only [List.length_take] at hi1
  rw [List.getElem_take]
  by_cases e : i = k
  · subst e; exact hk
  · have := h i (by simp; omega) hi2
    rwa [List.getElem_take] at this

theorem fits_no_at (f : Form) (bs : List UInt8) (k : Nat) (h1 : k < f.steps.length) (h2 : k < bs.length) (hk : stepOk f.steps[k] bs[k] = false) : f.fits bs = false := by
  have : fitsGo f.steps bs = false := by
    cases e : fitsGo f.steps bs with
    | false => rfl
    | true => have := (fitsGo_iff _ _).1 e k h1 h2; rw [this] at hk; cases hk
  simp [Form.fits, this]

theorem fits_all (f : Form) (bs : List UInt8) (k : Nat) (h1 : k ≤ f.steps.length) (h2 : k ≤ bs.length) (hk : ¬ (k < f.steps.length ∧ k < bs.length)) (h : fitsGo (f.steps.take k) bs = true) :
    f.fits bs = (!f.mem || decide (bs.length < f.steps.length) || !((bs.getD (f.steps.length - 1) 0).toNat &&& 7 == 4)) := by
  have : fitsGo f.steps bs = true := by
    rw [fitsGo_iff] at h ⊢
    intro i hi1 hi2
    have := h i (by simp; omega) hi2
    rwa [List.getElem_take] at this
  simp [Form.fits, this]
end Go.Proofs.Ytegnmnhdpnmnpaa
