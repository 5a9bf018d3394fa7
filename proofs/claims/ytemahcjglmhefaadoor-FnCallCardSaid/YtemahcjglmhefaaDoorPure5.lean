/- The machine's plain functions: places, branches, the stack, a step. No condition. -/
import Derived.Test.YtemahcjglmhefaaDoorPure4
import Derived.Test.YtemahcjglmhefaaDoorOp2
namespace Go.Proofs.YtemahcjglmhefaaDoor

def Ms.setPC (m : Ms) (v : Int) : Ms := { m with c := { m.c with pc := v } }
def Ms.setS (m : Ms) (v : Int) : Ms := { m with c := { m.c with s := v } }
def Ms.setF (m : Ms) (f : Fl) : Ms := { m with c := { m.c with f := f } }
def u16 (x : Int) : Int := x % 65536
def u8 (x : Int) : Int := x % 256
def pageOf (base e : Int) : Int := base / 256 * 256 + e % 256
def placeEnd (kind base e : Int) (m : Ms) : Int × Ms := if kind ≠ 2 ∨ pageOf base e ≠ e then (e, m.read (pageOf base e)) else (e, m)
def placeF (mode kind : Int) (m : Ms) : Int × Ms :=
  if mode = 3 then (m.look (u16 (m.c.pc + 1)), m.read (u16 (m.c.pc + 1)))
  else if mode = 4 then (u8 (m.look (u16 (m.c.pc + 1)) + m.c.x), (m.read (u16 (m.c.pc + 1))).read (m.look (u16 (m.c.pc + 1))))
  else if mode = 5 then (u8 (m.look (u16 (m.c.pc + 1)) + m.c.y), (m.read (u16 (m.c.pc + 1))).read (m.look (u16 (m.c.pc + 1))))
  else if mode = 10 then (m.word (u8 (m.look (u16 (m.c.pc + 1)) + m.c.x)) (u8 (m.look (u16 (m.c.pc + 1)) + m.c.x + 1)),
    ((m.read (u16 (m.c.pc + 1))).read (m.look (u16 (m.c.pc + 1)))).read2 (u8 (m.look (u16 (m.c.pc + 1)) + m.c.x)) (u8 (m.look (u16 (m.c.pc + 1)) + m.c.x + 1)))
  else if mode = 11 then placeEnd kind (m.word (m.look (u16 (m.c.pc + 1))) (u8 (m.look (u16 (m.c.pc + 1)) + 1))) (u16 (m.word (m.look (u16 (m.c.pc + 1))) (u8 (m.look (u16 (m.c.pc + 1)) + 1)) + m.c.y))
    ((m.read (u16 (m.c.pc + 1))).read2 (m.look (u16 (m.c.pc + 1))) (u8 (m.look (u16 (m.c.pc + 1)) + 1)))
  else if mode = 6 then (m.word (u16 (m.c.pc + 1)) (u16 (m.c.pc + 2)), m.read2 (u16 (m.c.pc + 1)) (u16 (m.c.pc + 2)))
  else if mode = 7 then placeEnd kind (m.word (u16 (m.c.pc + 1)) (u16 (m.c.pc + 2))) (u16 (m.word (u16 (m.c.pc + 1)) (u16 (m.c.pc + 2)) + m.c.x)) (m.read2 (u16 (m.c.pc + 1)) (u16 (m.c.pc + 2)))
  else placeEnd kind (m.word (u16 (m.c.pc + 1)) (u16 (m.c.pc + 2))) (u16 (m.word (u16 (m.c.pc + 1)) (u16 (m.c.pc + 2)) + m.c.y)) (m.read2 (u16 (m.c.pc + 1)) (u16 (m.c.pc + 2)))
def branchF (l : List UInt8) (m : Ms) : Ms :=
  if takenF l m.c.f = true then
    (if pageOf (u16 (m.c.pc + 2)) (targetF m.c.pc (m.look (u16 (m.c.pc + 1)))) ≠ targetF m.c.pc (m.look (u16 (m.c.pc + 1))) then
      (((m.read (u16 (m.c.pc + 1))).setPC (u16 (m.c.pc + 2))).read (u16 (m.c.pc + 2))).read (pageOf (u16 (m.c.pc + 2)) (targetF m.c.pc (m.look (u16 (m.c.pc + 1)))))
     else ((m.read (u16 (m.c.pc + 1))).setPC (u16 (m.c.pc + 2))).read (u16 (m.c.pc + 2))).setPC (targetF m.c.pc (m.look (u16 (m.c.pc + 1))))
  else (m.read (u16 (m.c.pc + 1))).setPC (u16 (m.c.pc + 2))
def stk (s : Int) : Int := 256 + s
def jumpF (mode : Int) (m : Ms) : Ms :=
  if mode = 9 then ((m.read2 (u16 (m.c.pc + 1)) (u16 (m.c.pc + 2))).read2 (m.word (u16 (m.c.pc + 1)) (u16 (m.c.pc + 2))) (pageOf (m.word (u16 (m.c.pc + 1)) (u16 (m.c.pc + 2))) (m.word (u16 (m.c.pc + 1)) (u16 (m.c.pc + 2)) + 1))).setPC
    (m.word (m.word (u16 (m.c.pc + 1)) (u16 (m.c.pc + 2))) (pageOf (m.word (u16 (m.c.pc + 1)) (u16 (m.c.pc + 2))) (m.word (u16 (m.c.pc + 1)) (u16 (m.c.pc + 2)) + 1)))
  else (m.read2 (u16 (m.c.pc + 1)) (u16 (m.c.pc + 2))).setPC (m.word (u16 (m.c.pc + 1)) (u16 (m.c.pc + 2)))
def subPush (m : Ms) : Ms := ((m.read (u16 (m.c.pc + 1))).read (stk m.c.s)).push [u16 (m.c.pc + 2) / 256, u8 (m.c.pc + 2)]
def subF (m : Ms) : Ms := ((subPush m).read (u16 (m.c.pc + 2))).setPC ((subPush m).look (u16 (m.c.pc + 2)) * 256 + m.look (u16 (m.c.pc + 1)))
def backF (m : Ms) : Ms :=
  (((((m.read (u16 (m.c.pc + 1))).read (stk m.c.s)).read2 (stk (u8 (m.c.s + 1))) (stk (u8 (m.c.s + 2)))).read (m.word (stk (u8 (m.c.s + 1))) (stk (u8 (m.c.s + 2))))).setPC (u16 (m.word (stk (u8 (m.c.s + 1))) (stk (u8 (m.c.s + 2))) + 1))).setS (u8 (m.c.s + 2))
def rtiF (m : Ms) : Ms :=
  ((((((m.read (u16 (m.c.pc + 1))).read (stk m.c.s)).read (stk (u8 (m.c.s + 1)))).setF (unpackF (m.look (stk (u8 (m.c.s + 1)))))).read2 (stk (u8 (m.c.s + 2))) (stk (u8 (m.c.s + 3)))).setPC (m.word (stk (u8 (m.c.s + 2))) (stk (u8 (m.c.s + 3))))).setS (u8 (m.c.s + 3))
def vecF (m : Ms) (a b : Int) : Ms := ((m.read2 a b).setPC (m.word a b)).setF { m.c.f with i := true }
def brkF (m : Ms) : Ms := vecF ((m.read (u16 (m.c.pc + 1))).push [u16 (m.c.pc + 2) / 256, u8 (m.c.pc + 2), packF m.c.f true]) 65534 65535
def flowF (kind mode : Int) (l : List UInt8) (m : Ms) : Ms :=
  if kind = 5 then branchF l m else if kind = 6 then jumpF mode m else if kind = 7 then subF m else if kind = 8 then backF m else if kind = 9 then rtiF m else if kind = 10 then brkF m else m
def pullM (m : Ms) : Ms := ((((m.read (u16 (m.c.pc + 1))).read (stk m.c.s)).setS (u8 (m.c.s + 1))).read (stk (u8 (m.c.s + 1))))
def pullF (l : List UInt8) (m : Ms) : Ms :=
  if l = [80, 76, 65] then (pullM m).do_ [76, 68, 65] (m.look (stk (u8 (m.c.s + 1)))) else (pullM m).setF (unpackF (m.look (stk (u8 (m.c.s + 1)))))
def pushF (l : List UInt8) (m : Ms) : Ms := (m.read (u16 (m.c.pc + 1))).push [if l = [80, 72, 65] then m.c.a else packF m.c.f true]
def regF (l : List UInt8) (c : Cp) : Int := if l = [83, 84, 65] then c.a else if l = [83, 84, 88] then c.x else c.y
def modF (l : List UInt8) (e : Int) (m : Ms) : Ms := (((m.read e).write e (m.look e)).do_ l (m.look e)).write e (doF l (m.look e) m.c).1
def operF (kind mode : Int) (l : List UInt8) (m : Ms) : Ms :=
  if mode = 2 then (m.read (u16 (m.c.pc + 1))).do_ l (m.look (u16 (m.c.pc + 1)))
  else if kind = 2 then ((placeF mode kind m).2.read (placeF mode kind m).1).do_ l ((placeF mode kind m).2.look (placeF mode kind m).1)
  else if kind = 3 then (placeF mode kind m).2.write (placeF mode kind m).1 (regF l m.c)
  else modF l (placeF mode kind m).1 (placeF mode kind m).2
def Ms.on (m : Ms) (k : Int) : Ms := m.setPC (u16 (m.c.pc + k))
def stepBy (r : List UInt8 × Int) (m : Ms) : Ms :=
  if kindF r = 1 then ((m.read (u16 (m.c.pc + 1))).imp r.1).on (sizeF r.2)
  else if kindF r = 2 ∨ kindF r = 3 ∨ kindF r = 4 then (operF (kindF r) r.2 r.1 m).on (sizeF r.2)
  else if kindF r = 11 then (pushF r.1 m).on (sizeF r.2)
  else if kindF r = 12 then (pullF r.1 m).on (sizeF r.2)
  else flowF (kindF r) r.2 r.1 m
def stepF (m : Ms) : Ms := stepBy (opF (m.look m.c.pc)) (m.read m.c.pc)
def serveF (m : Ms) (nmi : Bool) : Ms := vecF (((m.read m.c.pc).read m.c.pc).push [m.c.pc / 256, u8 m.c.pc, packF m.c.f false]) (if nmi then 65530 else 65534) (if nmi then 65531 else 65535)

theorem page_eq (b e : Int) (h0 : 0 ≤ b) (h1 : b < 65536) (h2 : 0 ≤ e) (h3 : e < 65536) : bits BinOp.or IntKind.u16 (bits BinOp.and IntKind.u16 b 65280) (bits BinOp.and IntKind.u16 e 255) = pageOf b e := by
  obtain ⟨x, rfl⟩ := Int.eq_ofNat_of_zero_le h0
  obtain ⟨y, rfl⟩ := Int.eq_ofNat_of_zero_le h2
  have hx : bits BinOp.and IntKind.u16 (x : Int) 65280 = (x : Int) / 256 * 256 := by
    rw [show (65280 : Int) = ((65280 : Nat) : Int) from rfl, u16_and_nat x 65280 (by omega) (by decide)]
    have e1 : x &&& 65280 = x / 256 * 256 := by
      have h : x &&& 65280 = 2 ^ 8 * ((x / 2 ^ 8) &&& 255) := by
        apply Nat.eq_of_testBit_eq
        intro i
        rw [Nat.testBit_and, Nat.testBit_two_pow_mul, Nat.testBit_and, Nat.testBit_div_two_pow]
        by_cases hi : 8 ≤ i
        · rw [show (65280 : Nat) = 2 ^ 8 * 255 from rfl, Nat.testBit_two_pow_mul]
          simp [hi]
        · rw [show (65280 : Nat) = 2 ^ 8 * 255 from rfl, Nat.testBit_two_pow_mul]
          simp [hi]
      rw [h, show (255 : Nat) = 2 ^ 8 - 1 from rfl, Nat.and_two_pow_sub_one_eq_mod]
      omega
    rw [e1]
    omega
  have hy : bits BinOp.and IntKind.u16 (y : Int) 255 = (y : Int) % 256 := by
    rw [show (255 : Int) = ((255 : Nat) : Int) from rfl, u16_and_nat y 255 (by omega) (by decide), show (255 : Nat) = 2 ^ 8 - 1 from rfl, Nat.and_two_pow_sub_one_eq_mod]
    omega
  rw [hx, hy, word_or _ _ (by omega) (by omega) (by omega) (by omega)]
  rfl
theorem page_ok (b e : Int) (h0 : 0 ≤ b) (h1 : b < 65536) : 0 ≤ pageOf b e ∧ pageOf b e < 65536 := by unfold pageOf; omega
theorem word_ok {m : Ms} (h : Byt m.ram) (a b : Int) : 0 ≤ m.word a b ∧ m.word a b < 65536 := by
  have h1 := Ms.look_ok h a
  have h2 := Ms.look_ok h b
  unfold Ms.word
  omega
theorem u16_ok (x : Int) : 0 ≤ u16 x ∧ u16 x < 65536 := by unfold u16; omega
theorem u8_ok (x : Int) : 0 ≤ u8 x ∧ u8 x < 256 := by unfold u8; omega
theorem target_ok (a b : Int) : 0 ≤ targetF a b ∧ targetF a b < 65536 := by unfold targetF; omega
theorem pack_ok (f : Fl) (b : Bool) : 0 ≤ packF f b ∧ packF f b < 256 := by
  obtain ⟨n, v, d, i, z, c⟩ := f
  revert n v d i z c b
  decide +kernel
theorem wrap_u16 (n : Int) : IntKind.u16.wrap n = u16 n := IntKind.wrap_u16 n
theorem wrap_u8 (n : Int) : IntKind.u8.wrap n = u8 n := IntKind.wrap_u8' n
end Go.Proofs.YtemahcjglmhefaaDoor
