/- The plain functions that the walks come to: registers, flags, bytes; no program in sight. No condition. -/
import Derived.Laws.BitsAllLaws
namespace Go.Proofs.YtemahcjglmhefaaDoor

structure Fl where
  n : Bool
  v : Bool
  d : Bool
  i : Bool
  z : Bool
  c : Bool
deriving DecidableEq
structure Cp where
  a : Int
  x : Int
  y : Int
  s : Int
  pc : Int
  f : Fl
deriving DecidableEq
structure Cy where
  ad : Int
  da : Int
  wr : Bool
deriving DecidableEq

def hasB (b p : Int) : Bool := decide (b / 2 ^ p.toNat % 2 = 1)
def bitB (b : Bool) (p : Int) : Int := if b then 2 ^ p.toNat else 0
def oneB (b : Bool) : Int := if b then 1 else 0
def nzF (b : Int) (f : Fl) : Fl := { f with n := hasB b 7, z := b == 0 }
def packF (f : Fl) (brk : Bool) : Int := oneB f.n * 128 + oneB f.v * 64 + 32 + oneB brk * 16 + oneB f.d * 8 + oneB f.i * 4 + oneB f.z * 2 + oneB f.c
def unpackF (b : Int) : Fl := { n := hasB b 7, v := hasB b 6, d := hasB b 3, i := hasB b 2, z := hasB b 1, c := hasB b 0 }
def takenF (l : List UInt8) (f : Fl) : Bool :=
  if l == [66, 80, 76] then !f.n else if l == [66, 77, 73] then f.n else if l == [66, 86, 67] then !f.v else if l == [66, 86, 83] then f.v
  else if l == [66, 67, 67] then !f.c else if l == [66, 67, 83] then f.c else if l == [66, 78, 69] then !f.z else f.z

structure Ms where
  c : Cp
  ram : List Int
  cy : List Cy
/-- In range: what the walks need. -/
def Cp.ok (c : Cp) : Prop := (0 ≤ c.a ∧ c.a < 256) ∧ (0 ≤ c.x ∧ c.x < 256) ∧ (0 ≤ c.y ∧ c.y < 256) ∧ (0 ≤ c.s ∧ c.s < 256) ∧ (0 ≤ c.pc ∧ c.pc < 65536)
def okSize (n : Nat) : Prop := n = 256 ∨ n = 512 ∨ n = 1024 ∨ n = 2048 ∨ n = 4096

theorem hasB_bits (b p : Int) (hb : 0 ≤ b) (hb' : b < 256) : (bits BinOp.and IntKind.u8 (b / 2 ^ p.toNat) 1 == 1) = hasB b p := by
  unfold hasB
  have hd : (0 : Int) < 2 ^ p.toNat := Int.pow_pos (by decide)
  have h0 : 0 ≤ b / 2 ^ p.toNat := Int.ediv_nonneg hb (Int.le_of_lt hd)
  have h1 : b / 2 ^ p.toNat < 256 := Int.lt_of_le_of_lt (Int.ediv_le_self _ hb) hb'
  rw [u8_and _ _ h0 h1 (by decide) (by decide)]
  generalize b / 2 ^ p.toNat = q at *
  obtain ⟨m, rfl⟩ := Int.eq_ofNat_of_zero_le h0
  simp only [Int.toNat_natCast, show (1 : Int).toNat = 1 from rfl, Nat.and_one_is_mod]
  rw [Bool.eq_iff_iff]
  simp
theorem word_or (lo hi : Int) (h0 : 0 ≤ lo) (h1 : lo < 256) (h2 : 0 ≤ hi) (h3 : hi < 256) : bits BinOp.or IntKind.u16 (hi * 256) lo = hi * 256 + lo := by
  obtain ⟨l, rfl⟩ := Int.eq_ofNat_of_zero_le h0
  obtain ⟨h, rfl⟩ := Int.eq_ofNat_of_zero_le h2
  rw [u16_or _ _ (by omega) (by omega) (by omega) (by omega)]
  have e : (((h : Int) * 256).toNat : Nat) = 2 ^ 8 * h := by omega
  rw [e, Int.toNat_natCast, ← Nat.two_pow_add_eq_or_of_lt (by omega)]
  omega
def targetF (pc o : Int) : Int := (pc + 2 + (if o < 128 then o else o - 256)) % 65536
theorem target_eq (pc o : Int) (h0 : 0 ≤ pc) (h1 : pc < 65536) (h2 : 0 ≤ o) (h3 : o < 256) :
    IntKind.u16.wrap (IntKind.u16.wrap (pc + 2) + IntKind.u16.wrap (IntKind.i16.wrap (IntKind.i8.wrap o))) = targetF pc o := by
  unfold targetF
  simp [IntKind.wrap, IntKind.bits, IntKind.signed]
  split <;> omega
def okSizeB (n : Int) : Bool := n == 256 || n == 512 || n == 1024 || n == 2048 || n == 4096
theorem okSizeB_iff (n : Nat) : okSizeB n = true ↔ okSize n := by
  unfold okSizeB okSize
  simp
  omega
theorem pack_eq (f : Fl) (brk : Bool) : bits BinOp.or IntKind.u8 (bits BinOp.or IntKind.u8 (bits BinOp.or IntKind.u8 (bits BinOp.or IntKind.u8 (bits BinOp.or IntKind.u8 (bits BinOp.or IntKind.u8 (bits BinOp.or IntKind.u8 (bitB f.n 7) (bitB f.v 6)) 32)
    (bitB brk 4)) (bitB f.d 3)) (bitB f.i 2)) (bitB f.z 1)) (bitB f.c 0) = packF f brk := by
  obtain ⟨n, v, d, i, z, c⟩ := f
  revert n v d i z c brk
  decide +kernel
def cmpF (a b : Int) (f : Fl) : Fl := { nzF ((a - b) % 256) f with c := decide (b ≤ a) }
def movedF (b : Int) (out : Bool) (f : Fl) : Fl := { nzF b f with c := out }
def adcF (a b : Int) (f : Fl) : Int × Fl :=
  let sum := a + b + oneB f.c
  if f.d then
    let l0 := a % 16 + b % 16 + oneB f.c
    let l := if 10 ≤ l0 then (l0 + 6) % 16 + 16 else l0
    let h := a / 16 * 16 + b / 16 * 16 + l
    let h2 := if 160 ≤ h then h + 96 else h
    (h2 % 256, { f with n := hasB (h % 256) 7, v := hasB a 7 == hasB b 7 && hasB (h % 256) 7 != hasB a 7, c := decide (255 < h2), z := sum % 256 == 0 })
  else (sum % 256, { nzF (sum % 256) f with c := decide (255 < sum), v := hasB a 7 == hasB b 7 && hasB (sum % 256) 7 != hasB a 7 })
def sbcF (a b : Int) (f : Fl) : Int × Fl :=
  let r := adcF a (255 - b) { f with d := false }
  if f.d then
    let l0 := a % 16 - b % 16 - 1 + oneB f.c
    let l := if l0 < 0 then (l0 - 6) % 16 - 16 else l0
    let h := a / 16 * 16 - b / 16 * 16 + l
    let h2 := if h < 0 then h - 96 else h
    (h2 % 256, { r.2 with d := f.d })
  else (r.1, { r.2 with d := f.d })
def aslF (b : Int) (f : Fl) : Int × Fl := (b * 2 % 256, movedF (b * 2 % 256) (hasB b 7) f)
def lsrF (b : Int) (f : Fl) : Int × Fl := (b / 2, movedF (b / 2) (hasB b 0) f)
def rolF (b : Int) (f : Fl) : Int × Fl := (b * 2 % 256 + oneB f.c, movedF (b * 2 % 256 + oneB f.c) (hasB b 7) f)
def rorF (b : Int) (f : Fl) : Int × Fl := (b / 2 + oneB f.c * 128, movedF (b / 2 + oneB f.c * 128) (hasB b 0) f)
theorem rol_or (b : Int) (c : Bool) (h0 : 0 ≤ b) (h1 : b < 256) : bits BinOp.or IntKind.u8 (b * 2 % 256) (bitB c 0) = b * 2 % 256 + oneB c := by
  have : ∀ (k : Fin 256) (c : Bool), bits BinOp.or IntKind.u8 ((k.val : Int) * 2 % 256) (bitB c 0) = (k.val : Int) * 2 % 256 + oneB c := by decide +kernel
  obtain ⟨m, rfl⟩ := Int.eq_ofNat_of_zero_le h0
  exact this ⟨m, by omega⟩ c
theorem ror_or (b : Int) (c : Bool) (h0 : 0 ≤ b) (h1 : b < 256) : bits BinOp.or IntKind.u8 (b / 2) (bitB c 7) = b / 2 + oneB c * 128 := by
  have : ∀ (k : Fin 256) (c : Bool), bits BinOp.or IntKind.u8 ((k.val : Int) / 2) (bitB c 7) = (k.val : Int) / 2 + oneB c * 128 := by decide +kernel
  obtain ⟨m, rfl⟩ := Int.eq_ofNat_of_zero_le h0
  exact this ⟨m, by omega⟩ c
theorem adcF_ok (a b : Int) (f : Fl) : 0 ≤ (adcF a b f).1 ∧ (adcF a b f).1 < 256 := by
  unfold adcF
  split <;> (simp only []; omega)
def bitTestF (a m : Int) (f : Fl) : Fl := { f with n := hasB m 7, v := hasB m 6, z := bits BinOp.and IntKind.u8 a m == 0 }
theorem and15_i64 (b : Int) (h0 : -32 ≤ b) (h1 : b < 64) : bits BinOp.and IntKind.i64 b 15 = b % 16 := by
  have : ∀ k : Fin 96, bits BinOp.and IntKind.i64 ((k.val : Int) - 32) 15 = ((k.val : Int) - 32) % 16 := by decide +kernel
  have h := this ⟨(b + 32).toNat, by omega⟩
  simp only [Int.toNat_of_nonneg (show 0 ≤ b + 32 by omega)] at h
  rw [show b + 32 - 32 = b by omega] at h
  exact h
theorem oneB_le (c : Bool) : 0 ≤ oneB c ∧ oneB c ≤ 1 := by unfold oneB; split <;> omega
theorem not_eq (b : Int) (h0 : 0 ≤ b) (h1 : b < 256) : bits BinOp.xor IntKind.u8 255 b = 255 - b := by
  have : ∀ k : Fin 256, bits BinOp.xor IntKind.u8 255 (k.val : Int) = 255 - (k.val : Int) := by decide +kernel
  obtain ⟨m, rfl⟩ := Int.eq_ofNat_of_zero_le h0
  exact this ⟨m, by omega⟩
theorem and15_eq (b : Int) (h0 : 0 ≤ b) (h1 : b < 256) : bits BinOp.and IntKind.u8 b 15 = b % 16 := by
  have : ∀ k : Fin 256, bits BinOp.and IntKind.u8 (k.val : Int) 15 = (k.val : Int) % 16 := by decide +kernel
  obtain ⟨m, rfl⟩ := Int.eq_ofNat_of_zero_le h0
  exact this ⟨m, by omega⟩
theorem and240_eq (b : Int) (h0 : 0 ≤ b) (h1 : b < 256) : bits BinOp.and IntKind.u8 b 240 = b / 16 * 16 := by
  have : ∀ k : Fin 256, bits BinOp.and IntKind.u8 (k.val : Int) 240 = (k.val : Int) / 16 * 16 := by decide +kernel
  obtain ⟨m, rfl⟩ := Int.eq_ofNat_of_zero_le h0
  exact this ⟨m, by omega⟩
end Go.Proofs.YtemahcjglmhefaaDoor
