/- What an operation without an operand does. No condition. -/
import Derived.Test.YtemahcjglmhefaaDoorPure3
namespace Go.Proofs.YtemahcjglmhefaaDoor

def impF (l : List UInt8) (c : Cp) : Cp :=
  if l = [65, 83, 76] ∨ l = [76, 83, 82] ∨ l = [82, 79, 76] ∨ l = [82, 79, 82] then { (doF l c.a c).2 with a := (doF l c.a c).1 }
  else if l = [73, 78, 88] then { c with x := (c.x + 1) % 256, f := nzF ((c.x + 1) % 256) c.f }
  else if l = [73, 78, 89] then { c with y := (c.y + 1) % 256, f := nzF ((c.y + 1) % 256) c.f }
  else if l = [68, 69, 88] then { c with x := (c.x - 1) % 256, f := nzF ((c.x - 1) % 256) c.f }
  else if l = [68, 69, 89] then { c with y := (c.y - 1) % 256, f := nzF ((c.y - 1) % 256) c.f }
  else if l = [84, 65, 88] then { c with x := c.a, f := nzF c.a c.f }
  else if l = [84, 88, 65] then { c with a := c.x, f := nzF c.x c.f }
  else if l = [84, 65, 89] then { c with y := c.a, f := nzF c.a c.f }
  else if l = [84, 89, 65] then { c with a := c.y, f := nzF c.y c.f }
  else if l = [84, 83, 88] then { c with x := c.s, f := nzF c.s c.f }
  else if l = [84, 88, 83] then { c with s := c.x }
  else if l = [67, 76, 67] then { c with f := { c.f with c := false } }
  else if l = [83, 69, 67] then { c with f := { c.f with c := true } }
  else if l = [67, 76, 73] then { c with f := { c.f with i := false } }
  else if l = [83, 69, 73] then { c with f := { c.f with i := true } }
  else if l = [67, 76, 68] then { c with f := { c.f with d := false } }
  else if l = [83, 69, 68] then { c with f := { c.f with d := true } }
  else if l = [67, 76, 86] then { c with f := { c.f with v := false } }
  else c
def Ms.imp (m : Ms) (l : List UInt8) : Ms := { m with c := impF l m.c }
end Go.Proofs.YtemahcjglmhefaaDoor
