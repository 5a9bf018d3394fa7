/- What an operation does with its operand. No condition. -/
import Derived.Test.YtemahcjglmhefaaDoorPure2
namespace Go.Proofs.YtemahcjglmhefaaDoor

def doF (l : List UInt8) (b : Int) (c : Cp) : Int × Cp :=
  if l = [76, 68, 65] then (b, { c with a := b, f := nzF b c.f })
  else if l = [76, 68, 88] then (b, { c with x := b, f := nzF b c.f })
  else if l = [76, 68, 89] then (b, { c with y := b, f := nzF b c.f })
  else if l = [79, 82, 65] then (bits BinOp.or IntKind.u8 c.a b, { c with a := bits BinOp.or IntKind.u8 c.a b, f := nzF (bits BinOp.or IntKind.u8 c.a b) c.f })
  else if l = [65, 78, 68] then (bits BinOp.and IntKind.u8 c.a b, { c with a := bits BinOp.and IntKind.u8 c.a b, f := nzF (bits BinOp.and IntKind.u8 c.a b) c.f })
  else if l = [69, 79, 82] then (bits BinOp.xor IntKind.u8 c.a b, { c with a := bits BinOp.xor IntKind.u8 c.a b, f := nzF (bits BinOp.xor IntKind.u8 c.a b) c.f })
  else if l = [65, 68, 67] then (b, { c with a := (adcF c.a b c.f).1, f := (adcF c.a b c.f).2 })
  else if l = [83, 66, 67] then (b, { c with a := (sbcF c.a b c.f).1, f := (sbcF c.a b c.f).2 })
  else if l = [67, 77, 80] then (b, { c with f := cmpF c.a b c.f })
  else if l = [67, 80, 88] then (b, { c with f := cmpF c.x b c.f })
  else if l = [67, 80, 89] then (b, { c with f := cmpF c.y b c.f })
  else if l = [66, 73, 84] then (b, { c with f := bitTestF c.a b c.f })
  else if l = [65, 83, 76] then ((aslF b c.f).1, { c with f := (aslF b c.f).2 })
  else if l = [76, 83, 82] then ((lsrF b c.f).1, { c with f := (lsrF b c.f).2 })
  else if l = [82, 79, 76] then ((rolF b c.f).1, { c with f := (rolF b c.f).2 })
  else if l = [82, 79, 82] then ((rorF b c.f).1, { c with f := (rorF b c.f).2 })
  else if l = [73, 78, 67] then ((b + 1) % 256, { c with f := nzF ((b + 1) % 256) c.f })
  else if l = [68, 69, 67] then ((b - 1) % 256, { c with f := nzF ((b - 1) % 256) c.f })
  else (b, c)
theorem bits_u8_range (o : BinOp) (ho : o = .or ∨ o = .and ∨ o = .xor) (a b : Int) (ha : 0 ≤ a ∧ a < 256) (hb : 0 ≤ b ∧ b < 256) : 0 ≤ bits o .u8 a b ∧ bits o .u8 a b < 256 := by
  have hA : a.toNat < 256 := by omega
  have hB : b.toNat < 256 := by omega
  rcases ho with rfl | rfl | rfl
  · rw [u8_or _ _ ha.1 ha.2 hb.1 hb.2]
    have := Nat.or_lt_two_pow (n := 8) hA hB
    omega
  · rw [u8_and _ _ ha.1 ha.2 hb.1 hb.2]
    have := Nat.and_lt_two_pow (n := 8) a.toNat hB
    omega
  · rw [u8_xor _ _ ha.1 ha.2 hb.1 hb.2]
    have := Nat.xor_lt_two_pow (n := 8) hA hB
    omega
theorem sbcF_ok (a b : Int) (f : Fl) : 0 ≤ (sbcF a b f).1 ∧ (sbcF a b f).1 < 256 := by
  have := adcF_ok a (255 - b) { f with d := false }
  unfold sbcF
  split
  · simp only []
    omega
  · exact this
theorem ite_ok {c : Prop} [Decidable c] {a b : Int × Cp} (h : 0 ≤ a.1 ∧ a.1 < 256) (k : 0 ≤ b.1 ∧ b.1 < 256) : 0 ≤ (if c then a else b).1 ∧ (if c then a else b).1 < 256 := by
  split
  · exact h
  · exact k
theorem doF_ok (l : List UInt8) (b : Int) (c : Cp) (hb : 0 ≤ b ∧ b < 256) (hc : c.ok) : 0 ≤ (doF l b c).1 ∧ (doF l b c).1 < 256 := by
  have e1 := bits_u8_range .or (by simp) c.a b hc.1 hb
  have e2 := bits_u8_range .and (by simp) c.a b hc.1 hb
  have e3 := bits_u8_range .xor (by simp) c.a b hc.1 hb
  have e4 := oneB_le c.f.c
  unfold doF aslF lsrF rolF rorF
  repeat' refine ite_ok ?_ ?_
  all_goals first | exact hb | exact e1 | exact e2 | exact e3 | (simp only []; omega)
def Ms.do_ (m : Ms) (l : List UInt8) (b : Int) : Ms := { m with c := (doF l b m.c).2 }
end Go.Proofs.YtemahcjglmhefaaDoor
