/- All forms of package dec, in the order in which they are made. -/
import Derived.Test.YtegnmnhdpnmnpaaDecSpec
namespace Go.Proofs.Ytegnmnhdpnmnpaa
set_option linter.unusedVariables false
set_option linter.unusedSimpArgs false

def plainForms : List Form := [
  { steps := [(255, 144)], more := 0, op := 1, alu := 0, cc := 0 },
  { steps := [(255, 195)], more := 0, op := 2, alu := 0, cc := 0 },
  { steps := [(255, 232)], more := 4, op := 17, alu := 0, cc := 0 },
  { steps := [(255, 233)], more := 4, op := 18, alu := 0, cc := 0 },
  { steps := [(255, 235)], more := 1, op := 19, alu := 0, cc := 0 },
  { steps := [(255, 255), (255, 21)], more := 4, op := 21, alu := 0, cc := 0 },
  { steps := [(255, 255), (255, 37)], more := 4, op := 22, alu := 0, cc := 0 },
  { steps := [(255, 205)], more := 1, op := 23, alu := 0, cc := 0 },
  { steps := [(255, 114)], more := 1, op := 20, alu := 0, cc := 2 },
  { steps := [(255, 115)], more := 1, op := 20, alu := 0, cc := 3 },
  { steps := [(255, 116)], more := 1, op := 20, alu := 0, cc := 4 },
  { steps := [(255, 117)], more := 1, op := 20, alu := 0, cc := 5 },
  { steps := [(255, 120)], more := 1, op := 20, alu := 0, cc := 8 },
  { steps := [(255, 121)], more := 1, op := 20, alu := 0, cc := 9 },
  { steps := [(255, 124)], more := 1, op := 20, alu := 0, cc := 12 },
  { steps := [(255, 125)], more := 1, op := 20, alu := 0, cc := 13 }]
def oneForms : List Form := [
  { steps := [(248, 80)], more := 0, op := 3, alu := 0, cc := 0 },
  { steps := [(255, 65), (248, 80)], more := 0, op := 3, alu := 0, cc := 0 },
  { steps := [(248, 88)], more := 0, op := 4, alu := 0, cc := 0 },
  { steps := [(255, 65), (248, 88)], more := 0, op := 4, alu := 0, cc := 0 },
  { steps := [(248, 184)], more := 4, op := 6, alu := 0, cc := 0 },
  { steps := [(255, 65), (248, 184)], more := 4, op := 6, alu := 0, cc := 0 },
  { steps := [(254, 72), (248, 184)], more := 8, op := 5, alu := 0, cc := 0 },
  { steps := [(251, 72), (255, 139), (199, 5)], more := 4, op := 11, alu := 0, cc := 0 },
  { steps := [(251, 72), (255, 137), (199, 5)], more := 4, op := 12, alu := 0, cc := 0 },
  { steps := [(251, 72), (255, 141), (199, 5)], more := 4, op := 13, alu := 0, cc := 0 },
  { steps := [(254, 72), (255, 131), (248, 192)], more := 1, op := 14, alu := 0, cc := 0 },
  { steps := [(254, 72), (255, 131), (248, 232)], more := 1, op := 14, alu := 1, cc := 0 },
  { steps := [(254, 72), (255, 131), (248, 248)], more := 1, op := 14, alu := 7, cc := 0 },
  { steps := [(254, 72), (255, 255), (248, 192)], more := 0, op := 15, alu := 5, cc := 0 },
  { steps := [(254, 72), (255, 255), (248, 200)], more := 0, op := 15, alu := 6, cc := 0 },
  { steps := [(254, 72), (255, 193), (248, 224)], more := 1, op := 16, alu := 9, cc := 0 },
  { steps := [(254, 72), (255, 193), (248, 232)], more := 1, op := 16, alu := 10, cc := 0 }]
def twoForms : List Form := [
  { steps := [(250, 72), (255, 1), (192, 192)], more := 0, op := 7, alu := 0, cc := 0 },
  { steps := [(250, 72), (255, 41), (192, 192)], more := 0, op := 7, alu := 1, cc := 0 },
  { steps := [(250, 72), (255, 33), (192, 192)], more := 0, op := 7, alu := 2, cc := 0 },
  { steps := [(250, 72), (255, 9), (192, 192)], more := 0, op := 7, alu := 3, cc := 0 },
  { steps := [(250, 72), (255, 49), (192, 192)], more := 0, op := 7, alu := 4, cc := 0 },
  { steps := [(250, 72), (255, 57), (192, 192)], more := 0, op := 7, alu := 7, cc := 0 },
  { steps := [(250, 72), (255, 133), (192, 192)], more := 0, op := 7, alu := 8, cc := 0 },
  { steps := [(250, 72), (255, 137), (192, 192)], more := 0, op := 8, alu := 0, cc := 0 },
  { steps := [(250, 72), (255, 139), (192, 128)], more := 4, op := 9, alu := 0, cc := 0 },
  { steps := [(250, 72), (255, 137), (192, 128)], more := 4, op := 10, alu := 0, cc := 0 }]
def FORMS : List Form := plainForms ++ oneForms ++ twoForms

/-- What Decode tells: the first form that fits and whose bytes are all there; else whether one may still become. -/
def decodeGo (bs : List UInt8) : List Form → Int → Ins × Int × Int
  | [], e => ({}, 0, e)
  | f :: fs, e =>
    if f.fits bs then
      if f.steps.length + f.more ≤ bs.length then (f.ins (bs.take (f.steps.length + f.more)), ((f.steps.length + f.more : Nat) : Int), 0)
      else decodeGo bs fs 2
    else decodeGo bs fs e
def decodeL (bs : List UInt8) : Ins × Int × Int := decodeGo bs FORMS 16
end Go.Proofs.Ytegnmnhdpnmnpaa
