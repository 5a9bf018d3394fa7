/- Words for memory that the walks of this seat use: a block that is known whole, a slice that reads as a list, rows of the call's own, the machine and the bus. No condition. The variables that the program reads: the table of blanks and a number of the library's, below everything that a call makes. No condition. The plain functions that the walks come to: registers, flags, bytes; no program in sight. No condition. The machine's plain functions: reads, writes, operations; no program in sight. No condition. The machine and its memory in the heap: what the walks of the machine's methods hand on. No condition. -/
import Derived.Test.YtemahcjglmhefaaGreatDoorRows
import Derived.WalkKit
import Derived.WalkSpells
import Derived.WalkLawsBesides
import Derived.Deep.QuietTactic
import Derived.BigQuiet
import Derived.Lib.Hide
import Derived.Deep.Draws
import Derived.Laws.Rows
import Derived.Maps.AppendAt
import Derived.Deep.AppendLies
import Derived.Test.YtemahcjglmhefaaGreatDoorShelf
import Derived.WalkSmall
import Derived.Laws.BitsAllLaws
namespace Go.Proofs.YtemahcjglmhefaaGreatDoor
set_option linter.unusedVariables false
set_option linter.unusedSimpArgs false
open Go.RowKit

/-! ### Blocks -/
theorem below_all {w w' : World} (h : w'.os = w.os) (h1 : w'.tape = w.tape) (h2 : w'.output = w.output) (h3 : w.heap.size ≤ w'.heap.size) (h4 : ∀ k, k < w.heap.size → w'.heap[k]? = w.heap[k]?) : Below w.heap.size w w' := ⟨h, h1, h2, h3, h4⟩
theorem Bl.al {w w' : World} {B : Nat} (h : Below B w w') (hB : B ≤ w.heap.size) (o : Obj) : Below B w (w'.alloc o) := h.alloc (Nat.le_trans hB h.size) o
theorem Bl.then_ {B : Nat} {w w1 w2 : World} (h : Below B w w1) (hB : B ≤ w1.heap.size) (k : Below w1.heap.size w1 w2) : Below B w w2 := h.trans (k.mono hB)
theorem Bl.drewN {B : Nat} {w w' : World} (h : Below B w w') (n : Nat) : Below B w (w'.drewN n) := ⟨h.os, h.tape, h.output, h.size, h.block⟩

/-- Two stores into one cell are the last one. -/
@[go_sem] theorem put_put (w : World) (a : Addr) (v v' : Value) : (w.setCell a v).setCell a v' = w.setCell a v' := by
  simp only [World.setCell]
  congr 1
  apply Array.ext_getElem?
  intro i
  simp only [Array.getElem?_modify]
  by_cases h : a.block = i
  · simp only [if_pos h, Option.map_map]
    congr 1
    funext o
    cases o with
    | cells cs t r => by_cases hs : a.spot.isSome = true <;> simp [hs]
    | _ => rfl
  · simp only [if_neg h]
theorem Dn.trans {a b c : World} (h : Below a.heap.size a b) (k : Below b.heap.size b c) : Below a.heap.size a c := Bl.then_ h h.size k
theorem Dn.al (w : World) (o : Obj) : Below w.heap.size w (w.alloc o) := (Below.refl _ _).alloc (Nat.le_refl _) o
theorem Dn.drew (w : World) : Below w.heap.size w w.drew := (Below.refl _ _).drew
theorem Dn.drewN (w : World) (n : Nat) : Below w.heap.size w (w.drewN n) := Bl.drewN (Below.refl _ _) n
def Bk (w : World) (g : Nat) (t : TypeId) (cs : Array Value) : Prop := w.heap[g]? = some (.cells cs t (0, 0))
section
variable {w w' : World} {g : Nat} {t : TypeId} {cs : Array Value}
theorem Bk.lt (h : Bk w g t cs) : g < w.heap.size := by
  unfold Bk at h
  exact (Array.getElem?_eq_some_iff.1 h).1
theorem Bk.cell (h : Bk w g t cs) (i : Nat) : w.cell? ⟨g, i, none⟩ = cs[i]? := cell_of_row w g i cs t (0, 0) h
theorem Bk.frozen (h : Bk w g t cs) (i : Nat) : w.frozen? ⟨g, i, none⟩ = false := by
  unfold Bk at h
  simp [World.frozen?, h]
theorem Bk.new (w : World) (t : TypeId) (cs : Array Value) : Bk (w.alloc (.cells cs t)) w.heap.size t cs := heap_alloc_new w _
theorem Bk.new1 (w : World) (o : Obj) (t : TypeId) (cs : Array Value) : Bk ((w.alloc o).alloc (.cells cs t)) (w.heap.size + 1) t cs := by
  have h := heap_alloc_new (w.alloc o) (.cells cs t)
  simpa [Bk] using h
theorem Bk.drew (h : Bk w g t cs) : Bk w.drew g t cs := h
theorem Bk.drewN (h : Bk w g t cs) (n : Nat) : Bk (w.drewN n) g t cs := h
theorem Bk.al (h : Bk w g t cs) (o : Obj) : Bk (w.alloc o) g t cs := (Below.heap_alloc w o g h.lt).trans h
theorem Bk.put (h : Bk w g t cs) (i : Nat) (u : Value) : Bk (w.setCell ⟨g, i, none⟩ u) g t (cs.setIfInBounds i u) := by
  unfold Bk at h ⊢
  simp [World.setCell, Array.getElem?_modify, h]
theorem Bk.far (h : Bk w g t cs) {p : Addr} (hp : g ≠ p.block) (u : Value) : Bk (w.setCell p u) g t cs := (Below.heap_setCell w p u g hp).trans h
theorem Bk.below {B : Nat} (h : Bk w g t cs) (hb : Below B w w') (hg : g < B) : Bk w' g t cs := (hb.block g hg).trans h
theorem Bk.later (h : Bk w g t cs) (hb : Below w.heap.size w w') : Bk w' g t cs := h.below hb h.lt
theorem Bk.grown {row : Option Nat} (h : Bk w g t cs) (hb : w.grownBy w' row) (hg : some g ≠ row) : Bk w' g t cs := (hb.block g h.lt hg).trans h
theorem Bk.apart {g' : Nat} {t' : TypeId} {cs' : Array Value} (h : Bk w g t cs) (h' : Bk w g' t' cs') (hne : t ≠ t') : g ≠ g' := by
  rintro rfl
  unfold Bk at h h'
  rw [h] at h'
  injection h' with h'
  injection h' with _ ht
  exact hne ht
end
section
variable {w w' : World} {base n : Nat} {e : TypeId} {size : Nat} {v : Value} {xs : List Value}
theorem own_apart {g : Nat} {t : TypeId} {cs : Array Value} (h : w.ownsRow base e size v n xs) (hg : Bk w g t cs) (hne : e ≠ t) : some g ≠ v.ownBlock := by
  rcases h.2 with ⟨rfl, _⟩ | ⟨g', cap, cur, rfl, _, hh, _⟩
  · simp [Value.ownBlock]
  · intro he
    have : g = g' := by simpa [Value.ownBlock] using he
    subst this
    exact Bk.apart (t := e) hh hg hne rfl
theorem own_apart2 {b2 n2 : Nat} {e2 : TypeId} {s2 : Nat} {v2 : Value} {ys : List Value} (h : w.ownsRow base e size v n xs) (h' : w.ownsRow b2 e2 s2 v2 n2 ys) (hne : e ≠ e2) : v.ownBlock = none ∨ v.ownBlock ≠ v2.ownBlock := by
  rcases h.2 with ⟨rfl, _⟩ | ⟨g, cap, cur, rfl, _, hh, _⟩
  · exact .inl rfl
  · exact .inr (own_apart h' (g := g) (t := e) (cs := cur) hh (Ne.symm hne))
theorem own_later (h : w.ownsRow base e size v n xs) (hb : Below w.heap.size w w') : w'.ownsRow base e size v n xs :=
  h.kept (row := none) ⟨hb.os, hb.tape, hb.output, hb.size, fun i hi _ => hb.block i hi⟩ (by cases v.ownBlock <;> simp)
theorem own_far (h : w.ownsRow base e size v n xs) {p : Addr} (hp : some p.block ≠ v.ownBlock) (u : Value) : (w.setCell p u).ownsRow base e size v n xs := by
  refine ⟨h.1, ?_⟩
  rcases h.2 with h2 | ⟨g, cap, cur, rfl, hg, hh, r⟩
  · exact Or.inl h2
  · exact Or.inr ⟨g, cap, cur, rfl, hg, by rw [Below.heap_setCell _ _ _ _ (fun e => hp (by simp [Value.ownBlock, e]))]; exact hh, r⟩
theorem own_base (h : w.ownsRow base e size v n xs) (k : Nat) (hk : v.ownBlock = some k) : base ≤ k := (h.lt k hk).1
theorem own_shape (h : w.ownsRow base e size v n xs) : ∃ A c, v = .slice A n c := by
  rcases h.2 with ⟨rfl, rfl⟩ | ⟨g, cap, cur, rfl, _⟩
  · exact ⟨none, 0, rfl⟩
  · exact ⟨_, cap, rfl⟩
theorem own_more (h : w.ownsRow base e size v n xs) {b2 : Nat} (hb : b2 ≤ base) : w.ownsRow b2 e size v n xs := by
  refine ⟨h.1, ?_⟩
  rcases h.2 with h2 | ⟨g, cap, cur, rfl, hg, r⟩
  · exact Or.inl h2
  · exact Or.inr ⟨g, cap, cur, rfl, Nat.le_trans hb hg, r⟩
theorem grown_below {B : Nat} {row : Option Nat} (hg : w.grownBy w' row) (hB : B ≤ w.heap.size) (hr : ∀ k, row = some k → B ≤ k) : Below B w w' := (Below.refl _ _).grown hg hB hr
end

/-! ### Bytes that a slice reads as -/
def rd (xs : List Int) (i : Int) : Int := xs.getD i.toNat 0
def nums (k : IntKind) (xs : List Int) : List Value := xs.map fun x => .int k x
theorem nums_length (k : IntKind) (xs : List Int) : (nums k xs).length = xs.length := by simp [nums]
def Byt (xs : List Int) : Prop := ∀ x ∈ xs, 0 ≤ x ∧ x < 256
theorem Byt.rd {xs : List Int} (h : Byt xs) (i : Int) : 0 ≤ rd xs i ∧ rd xs i < 256 := by
  unfold Go.Proofs.YtemahcjglmhefaaGreatDoor.rd
  rw [List.getD_eq_getElem?_getD]
  rcases hh : xs[i.toNat]? with _ | x
  · simp
  · simpa using h x (List.mem_of_getElem? hh)
def Rds (w : World) (k : IntKind) (A : Option Addr) (n : Nat) (xs : List Int) : Prop :=
  xs.length = n ∧ n ≤ 9223372036854775807 ∧ (0 < n → ∃ ad, A = some ad ∧ ∀ j, j < n → w.cell? (ad.add j) = some (.int k (xs.getD j 0)))
theorem Rds.at_ {w : World} {k : IntKind} {A : Option Addr} {n : Nat} {xs : List Int} (h : Rds w k A n xs) (i : Int) (h0 : 0 ≤ i) (h1 : i < n) : ∃ ad, A = some ad ∧ w.cell? (ad.add i.toNat) = some (.int k (rd xs i)) := by
  obtain ⟨ad, e, hc⟩ := h.2.2 (by omega)
  exact ⟨ad, e, hc _ (by omega)⟩
theorem Rds.later {w w1 : World} {k : IntKind} {A : Option Addr} {n : Nat} {xs : List Int} (h : Rds w k A n xs) (hb : Below w.heap.size w w1) : Rds w1 k A n xs :=
  ⟨h.1, h.2.1, fun hn => by
    obtain ⟨ad, e, hc⟩ := h.2.2 hn
    exact ⟨ad, e, fun j hj => (hb.cell (World.block_lt_of_cell? w _ (hc j hj))).trans (hc j hj)⟩⟩
theorem own_rds {w : World} {base n : Nat} {e : TypeId} {k : IntKind} {v : Value} {xs : List Int} (h : w.ownsRow base e 1 v n (nums k xs)) : ∃ A c, v = .slice A n c ∧ Rds w k A n xs := by
  have hl : xs.length = n := by have := h.1; simp [nums] at this; exact this
  rcases Nat.eq_zero_or_pos n with h0 | h0
  · rcases h.2 with ⟨rfl, rfl⟩ | ⟨g, cap, cur, rfl, _⟩
    · exact ⟨none, 0, rfl, hl, by omega, fun hp => absurd hp (by omega)⟩
    · exact ⟨_, cap, rfl, hl, by omega, fun hp => absurd hp (by omega)⟩
  · obtain ⟨g, cap, rfl, _, _⟩ := h.form h0
    have hm : n ≤ 9223372036854775807 := by
      rcases h.2 with ⟨_, h1⟩ | ⟨g', cap', cur, he, _, _, h1, h2, _⟩
      · omega
      · simp only [maxLen] at h2
        omega
    refine ⟨_, cap, rfl, hl, hm, fun _ => ⟨_, rfl, fun j hj => h.cells (g := g) rfl j _ ?_⟩⟩
    simp [nums, List.getElem?_eq_getElem (show j < xs.length by omega), List.getD_eq_getElem?_getD]
end Go.Proofs.YtemahcjglmhefaaGreatDoor
namespace Go.Proofs.YtemahcjglmhefaaGreatDoor
set_option linter.unusedVariables false
set_option linter.unusedSimpArgs false
open Go.RowKit

structure Gl (w : World) : Prop where
  sz : 4 ≤ w.heap.size
  tab : Lib.TabIs Tryz.prog w "strings.asciiSpace" .u8 Lib.asciiSpaceTab
  mx : ∃ m, w.cell? ⟨2, 0, none⟩ = some (.int .i64 m)
theorem globAscii : Tryz.prog.globalNamed "strings.asciiSpace" = some 0 := by kernel_rfl
theorem Gl.below {w w' : World} {B : Nat} (h : Gl w) (hb : Below B w w') (hB : 4 ≤ B) : Gl w' := by
  obtain ⟨h1, h2, m, h3⟩ := h
  refine ⟨Nat.le_trans h1 hb.size, var?_below hb globAscii (Nat.lt_of_lt_of_le (by decide) hB) h2, m, ?_⟩
  rw [hb.cell (p := ⟨2, 0, none⟩) (Nat.lt_of_lt_of_le (by decide) hB)]
  exact h3
theorem Gl.later {w w' : World} (h : Gl w) (hb : Below w.heap.size w w') : Gl w' := h.below hb h.sz
end Go.Proofs.YtemahcjglmhefaaGreatDoor
namespace Go.Proofs.YtemahcjglmhefaaGreatDoor
set_option linter.unusedVariables false
set_option linter.unusedSimpArgs false

structure Fl where
  n : Bool
  v : Bool
  d : Bool
  i : Bool
  z : Bool
  c : Bool
deriving DecidableEq
structure Cp where
  a : Int
  x : Int
  y : Int
  s : Int
  pc : Int
  f : Fl
deriving DecidableEq
structure Cy where
  ad : Int
  da : Int
  wr : Bool
deriving DecidableEq

def hasB (b p : Int) : Bool := decide (b / 2 ^ p.toNat % 2 = 1)
def bitB (b : Bool) (p : Int) : Int := if b then 2 ^ p.toNat else 0
def oneB (b : Bool) : Int := if b then 1 else 0
def nzF (b : Int) (f : Fl) : Fl := { f with n := hasB b 7, z := b == 0 }
def packF (f : Fl) (brk : Bool) : Int := oneB f.n * 128 + oneB f.v * 64 + 32 + oneB brk * 16 + oneB f.d * 8 + oneB f.i * 4 + oneB f.z * 2 + oneB f.c
def unpackF (b : Int) : Fl := { n := hasB b 7, v := hasB b 6, d := hasB b 3, i := hasB b 2, z := hasB b 1, c := hasB b 0 }
def takenF (l : List UInt8) (f : Fl) : Bool :=
  if l == [66, 80, 76] then !f.n else if l == [66, 77, 73] then f.n else if l == [66, 86, 67] then !f.v else if l == [66, 86, 83] then f.v
  else if l == [66, 67, 67] then !f.c else if l == [66, 67, 83] then f.c else if l == [66, 78, 69] then !f.z else f.z

structure Ms where
  c : Cp
  ram : List Int
  cy : List Cy
/-- In range: what the walks need. -/
def Cp.ok (c : Cp) : Prop := (0 ≤ c.a ∧ c.a < 256) ∧ (0 ≤ c.x ∧ c.x < 256) ∧ (0 ≤ c.y ∧ c.y < 256) ∧ (0 ≤ c.s ∧ c.s < 256) ∧ (0 ≤ c.pc ∧ c.pc < 65536)
def okSize (n : Nat) : Prop := n = 256 ∨ n = 512 ∨ n = 1024 ∨ n = 2048 ∨ n = 4096

theorem hasB_bits (b p : Int) (hb : 0 ≤ b) (hb' : b < 256) : (bits BinOp.and IntKind.u8 (b / 2 ^ p.toNat) 1 == 1) = hasB b p := by
  unfold hasB
  have hd : (0 : Int) < 2 ^ p.toNat := Int.pow_pos (by decide)
  have h0 : 0 ≤ b / 2 ^ p.toNat := Int.ediv_nonneg hb (Int.le_of_lt hd)
  have h1 : b / 2 ^ p.toNat < 256 := Int.lt_of_le_of_lt (Int.ediv_le_self _ hb) hb'
  rw [u8_and _ _ h0 h1 (by decide) (by decide)]
  generalize b / 2 ^ p.toNat = q at *
  obtain ⟨m, rfl⟩ := Int.eq_ofNat_of_zero_le h0
  simp only [Int.toNat_natCast, show (1 : Int).toNat = 1 from rfl, Nat.and_one_is_mod]
  rw [Bool.eq_iff_iff]
  simp
theorem word_or (lo hi : Int) (h0 : 0 ≤ lo) (h1 : lo < 256) (h2 : 0 ≤ hi) (h3 : hi < 256) : bits BinOp.or IntKind.u16 (hi * 256) lo = hi * 256 + lo := by
  obtain ⟨l, rfl⟩ := Int.eq_ofNat_of_zero_le h0
  obtain ⟨h, rfl⟩ := Int.eq_ofNat_of_zero_le h2
  rw [u16_or _ _ (by omega) (by omega) (by omega) (by omega)]
  have e : (((h : Int) * 256).toNat : Nat) = 2 ^ 8 * h := by omega
  rw [e, Int.toNat_natCast, ← Nat.two_pow_add_eq_or_of_lt (by omega)]
  omega
def targetF (pc o : Int) : Int := (pc + 2 + (if o < 128 then o else o - 256)) % 65536
theorem target_eq (pc o : Int) (h0 : 0 ≤ pc) (h1 : pc < 65536) (h2 : 0 ≤ o) (h3 : o < 256) :
    IntKind.u16.wrap (IntKind.u16.wrap (pc + 2) + IntKind.u16.wrap (IntKind.i16.wrap (IntKind.i8.wrap o))) = targetF pc o := by
  unfold targetF
  simp [IntKind.wrap, IntKind.bits, IntKind.signed]
  split <;> omega
def okSizeB (n : Int) : Bool := n == 256 || n == 512 || n == 1024 || n == 2048 || n == 4096
theorem okSizeB_iff (n : Nat) : okSizeB n = true ↔ okSize n := by
  unfold okSizeB okSize
  simp
  omega
theorem pack_eq (f : Fl) (brk : Bool) : bits BinOp.or IntKind.u8 (bits BinOp.or IntKind.u8 (bits BinOp.or IntKind.u8 (bits BinOp.or IntKind.u8 (bits BinOp.or IntKind.u8 (bits BinOp.or IntKind.u8 (bits BinOp.or IntKind.u8 (bitB f.n 7) (bitB f.v 6)) 32)
    (bitB brk 4)) (bitB f.d 3)) (bitB f.i 2)) (bitB f.z 1)) (bitB f.c 0) = packF f brk := by
  obtain ⟨n, v, d, i, z, c⟩ := f
  revert n v d i z c brk
  decide +kernel
def cmpF (a b : Int) (f : Fl) : Fl := { nzF ((a - b) % 256) f with c := decide (b ≤ a) }
def movedF (b : Int) (out : Bool) (f : Fl) : Fl := { nzF b f with c := out }
def adcF (a b : Int) (f : Fl) : Int × Fl :=
  let sum := a + b + oneB f.c
  if f.d then
    let l0 := a % 16 + b % 16 + oneB f.c
    let l := if 10 ≤ l0 then (l0 + 6) % 16 + 16 else l0
    let h := a / 16 * 16 + b / 16 * 16 + l
    let h2 := if 160 ≤ h then h + 96 else h
    (h2 % 256, { f with n := hasB (h % 256) 7, v := hasB a 7 == hasB b 7 && hasB (h % 256) 7 != hasB a 7, c := decide (255 < h2), z := sum % 256 == 0 })
  else (sum % 256, { nzF (sum % 256) f with c := decide (255 < sum), v := hasB a 7 == hasB b 7 && hasB (sum % 256) 7 != hasB a 7 })
def sbcF (a b : Int) (f : Fl) : Int × Fl :=
  let r := adcF a (255 - b) { f with d := false }
  if f.d then
    let l0 := a % 16 - b % 16 - 1 + oneB f.c
    let l := if l0 < 0 then (l0 - 6) % 16 - 16 else l0
    let h := a / 16 * 16 - b / 16 * 16 + l
    let h2 := if h < 0 then h - 96 else h
    (h2 % 256, { r.2 with d := f.d })
  else (r.1, { r.2 with d := f.d })
def aslF (b : Int) (f : Fl) : Int × Fl := (b * 2 % 256, movedF (b * 2 % 256) (hasB b 7) f)
def lsrF (b : Int) (f : Fl) : Int × Fl := (b / 2, movedF (b / 2) (hasB b 0) f)
def rolF (b : Int) (f : Fl) : Int × Fl := (b * 2 % 256 + oneB f.c, movedF (b * 2 % 256 + oneB f.c) (hasB b 7) f)
def rorF (b : Int) (f : Fl) : Int × Fl := (b / 2 + oneB f.c * 128, movedF (b / 2 + oneB f.c * 128) (hasB b 0) f)
theorem rol_or (b : Int) (c : Bool) (h0 : 0 ≤ b) (h1 : b < 256) : bits BinOp.or IntKind.u8 (b * 2 % 256) (bitB c 0) = b * 2 % 256 + oneB c := by
  have : ∀ (k : Fin 256) (c : Bool), bits BinOp.or IntKind.u8 ((k.val : Int) * 2 % 256) (bitB c 0) = (k.val : Int) * 2 % 256 + oneB c := by decide +kernel
  obtain ⟨m, rfl⟩ := Int.eq_ofNat_of_zero_le h0
  exact this ⟨m, by omega⟩ c
theorem ror_or (b : Int) (c : Bool) (h0 : 0 ≤ b) (h1 : b < 256) : bits BinOp.or IntKind.u8 (b / 2) (bitB c 7) = b / 2 + oneB c * 128 := by
  have : ∀ (k : Fin 256) (c : Bool), bits BinOp.or IntKind.u8 ((k.val : Int) / 2) (bitB c 7) = (k.val : Int) / 2 + oneB c * 128 := by decide +kernel
  obtain ⟨m, rfl⟩ := Int.eq_ofNat_of_zero_le h0
  exact this ⟨m, by omega⟩ c
theorem adcF_ok (a b : Int) (f : Fl) : 0 ≤ (adcF a b f).1 ∧ (adcF a b f).1 < 256 := by
  unfold adcF
  split <;> (simp only []; omega)
def bitTestF (a m : Int) (f : Fl) : Fl := { f with n := hasB m 7, v := hasB m 6, z := bits BinOp.and IntKind.u8 a m == 0 }
theorem and15_i64 (b : Int) (h0 : -32 ≤ b) (h1 : b < 64) : bits BinOp.and IntKind.i64 b 15 = b % 16 := by
  have : ∀ k : Fin 96, bits BinOp.and IntKind.i64 ((k.val : Int) - 32) 15 = ((k.val : Int) - 32) % 16 := by decide +kernel
  have h := this ⟨(b + 32).toNat, by omega⟩
  simp only [Int.toNat_of_nonneg (show 0 ≤ b + 32 by omega)] at h
  rw [show b + 32 - 32 = b by omega] at h
  exact h
theorem oneB_le (c : Bool) : 0 ≤ oneB c ∧ oneB c ≤ 1 := by unfold oneB; split <;> omega
theorem not_eq (b : Int) (h0 : 0 ≤ b) (h1 : b < 256) : bits BinOp.xor IntKind.u8 255 b = 255 - b := by
  have : ∀ k : Fin 256, bits BinOp.xor IntKind.u8 255 (k.val : Int) = 255 - (k.val : Int) := by decide +kernel
  obtain ⟨m, rfl⟩ := Int.eq_ofNat_of_zero_le h0
  exact this ⟨m, by omega⟩
theorem and15_eq (b : Int) (h0 : 0 ≤ b) (h1 : b < 256) : bits BinOp.and IntKind.u8 b 15 = b % 16 := by
  have : ∀ k : Fin 256, bits BinOp.and IntKind.u8 (k.val : Int) 15 = (k.val : Int) % 16 := by decide +kernel
  obtain ⟨m, rfl⟩ := Int.eq_ofNat_of_zero_le h0
  exact this ⟨m, by omega⟩
theorem and240_eq (b : Int) (h0 : 0 ≤ b) (h1 : b < 256) : bits BinOp.and IntKind.u8 b 240 = b / 16 * 16 := by
  have : ∀ k : Fin 256, bits BinOp.and IntKind.u8 (k.val : Int) 240 = (k.val : Int) / 16 * 16 := by decide +kernel
  obtain ⟨m, rfl⟩ := Int.eq_ofNat_of_zero_le h0
  exact this ⟨m, by omega⟩
end Go.Proofs.YtemahcjglmhefaaGreatDoor
namespace Go.Proofs.YtemahcjglmhefaaGreatDoor
set_option linter.unusedVariables false
set_option linter.unusedSimpArgs false

def Ms.look (m : Ms) (ad : Int) : Int := rd m.ram (ad % (m.ram.length : Int))
def Ms.read (m : Ms) (ad : Int) : Ms := { m with cy := m.cy ++ [⟨ad, m.look ad, false⟩] }
def Ms.write (m : Ms) (ad v : Int) : Ms := { m with ram := m.ram.set (ad % (m.ram.length : Int)).toNat v, cy := m.cy ++ [⟨ad, v, true⟩] }
theorem Ms.look_ok {m : Ms} (h : Byt m.ram) (ad : Int) : 0 ≤ m.look ad ∧ m.look ad < 256 := h.rd _
theorem Byt.set {xs : List Int} (h : Byt xs) (i : Nat) {v : Int} (hv : 0 ≤ v ∧ v < 256) : Byt (xs.set i v) := by
  intro x hx
  rcases List.mem_or_eq_of_mem_set hx with h1 | h1
  · exact h x h1
  · rw [h1]; exact hv
def Ms.read2 (m : Ms) (a b : Int) : Ms := (m.read a).read b
def Ms.word (m : Ms) (a b : Int) : Int := m.look b * 256 + m.look a
def Ms.push1 (m : Ms) (v : Int) : Ms := { m.write (256 + m.c.s) v with c := { m.c with s := (m.c.s - 1) % 256 } }
def Ms.push (m : Ms) (l : List Int) : Ms := l.foldl Ms.push1 m
theorem Ms.push_snoc (m : Ms) (l : List Int) (v : Int) : m.push (l ++ [v]) = (m.push l).push1 v := by simp [Ms.push]
theorem Ms.push_cy (m : Ms) (l : List Int) : (m.push l).cy.length = m.cy.length + l.length := by
  induction l generalizing m with
  | nil => rfl
  | cons v l ih => simp only [Ms.push, List.foldl_cons] at ih ⊢; rw [ih]; simp [Ms.push1, Ms.write]; omega
end Go.Proofs.YtemahcjglmhefaaGreatDoor
namespace Go.Proofs.YtemahcjglmhefaaGreatDoor
set_option linter.unusedVariables false
set_option linter.unusedSimpArgs false
open Go.RowKit

def cyCells (l : List Cy) : List Value := l.flatMap fun c => [.int .u16 c.ad, .int .u8 c.da, .bool c.wr]
theorem cyCells_length (l : List Cy) : (cyCells l).length = l.length * 3 := by
  induction l with
  | nil => rfl
  | cons c l ih => simp [cyCells] at ih ⊢; omega
theorem cyCells_append (l k : List Cy) : cyCells (l ++ k) = cyCells l ++ cyCells k := by simp [cyCells]

/-- What is not the machine's own is kept. -/
def Fr (b g : Nat) (w w' : World) : Prop := w.heap.size ≤ w'.heap.size ∧ ∀ k t cs, Bk w k t cs → k ≠ b → k ≠ g → t ≠ 44 → Bk w' k t cs
theorem Fr.refl (b g : Nat) (w : World) : Fr b g w w := ⟨Nat.le_refl _, fun _ _ _ h _ _ _ => h⟩
theorem Fr.trans {b g : Nat} {w w1 w2 : World} (h : Fr b g w w1) (k : Fr b g w1 w2) : Fr b g w w2 := ⟨Nat.le_trans h.1 k.1, fun q t cs hq h1 h2 h3 => k.2 q t cs (h.2 q t cs hq h1 h2 h3) h1 h2 h3⟩
theorem Fr.later {b g : Nat} {w w' : World} (h : Below w.heap.size w w') : Fr b g w w' := ⟨h.size, fun _ _ _ hq _ _ _ => hq.later h⟩
theorem Fr.put {b g k : Nat} {w : World} (h : k = b ∨ k = g) (i : Nat) (u : Value) : Fr b g w (w.setCell ⟨k, i, none⟩ u) :=
  ⟨by simp [World.setCell], fun q t cs hq h1 h2 _ => hq.far (p := ⟨k, i, none⟩) (fun e => by rcases h with h | h <;> simp_all) u⟩

/-- The machine at block b: its registers, its memory (block g), its cycles, all made since B; below B the world is w0, and what is not the machine's is kept. -/
structure St (B : Nat) (w0 : World) (b g : Nat) (m : Ms) (w : World) : Prop where
  b4 : 4 ≤ B
  gl0 : Gl w0
  lo : B ≤ b
  bel : Below B w0 w
  top : B ≤ w.heap.size
  fr : Fr b g w0 w
  cok : m.c.ok
  sok : okSize m.ram.length
  byt : Byt m.ram
  mem : ∃ cap cv, Bk w b 57 #[.int .u8 m.c.a, .int .u8 m.c.x, .int .u8 m.c.y, .int .u8 m.c.s, .int .u16 m.c.pc, .bool m.c.f.n, .bool m.c.f.v, .bool m.c.f.d, .bool m.c.f.i, .bool m.c.f.z, .bool m.c.f.c, .slice (some ⟨g, 0, none⟩) m.ram.length cap, cv] ∧
    w.ownsRow B 5 1 (.slice (some ⟨g, 0, none⟩) m.ram.length cap) m.ram.length (nums .u8 m.ram) ∧ w.ownsRow B 44 3 cv m.cy.length (cyCells m.cy)

section
variable {B : Nat} {w0 w w' : World} {b g : Nat} {m m' : Ms}
theorem St.later (h : St B w0 b g m w) (hb : Below w.heap.size w w') : St B w0 b g m w' := by
  obtain ⟨hB, hG, h1, h2, h3, hf, h4, h5, h6, cap, cv, h7, h8, h9⟩ := h
  exact ⟨hB, hG, h1, Bl.then_ h2 h3 hb, Nat.le_trans h3 hb.size, hf.trans (Fr.later hb), h4, h5, h6, cap, cv, h7.later hb, own_later h8 hb, own_later h9 hb⟩
theorem St.drewN (h : St B w0 b g m w) (n : Nat) : St B w0 b g m (w.drewN n) := h.later (Bl.drewN (Below.refl _ _) n)
theorem St.drew (h : St B w0 b g m w) : St B w0 b g m w.drew := h.later (Dn.drew w)
theorem St.gl (h : St B w0 b g m w) : Gl w := h.gl0.below h.bel h.b4
theorem St.from_ (h : St B w0 b g m w) : St B w b g m w := ⟨h.b4, h.gl, h.lo, Below.refl _ _, h.top, Fr.refl _ _ _, h.cok, h.sok, h.byt, h.mem⟩
theorem St.trans_ (h : St B w0 b g m w) (k : St B w b g m' w') : St B w0 b g m' w' := ⟨k.b4, h.gl0, k.lo, h.bel.trans k.bel, k.top, h.fr.trans k.fr, k.cok, k.sok, k.byt, k.mem⟩
theorem St.put (h : St B w0 b g m w) (k : Nat) (u : Value) (m' : Ms) (hr : m'.ram = m.ram) (hc : m'.cy = m.cy) (hok : m'.c.ok)
    (he : ∀ rv cv, (#[.int .u8 m.c.a, .int .u8 m.c.x, .int .u8 m.c.y, .int .u8 m.c.s, .int .u16 m.c.pc, .bool m.c.f.n, .bool m.c.f.v, .bool m.c.f.d, .bool m.c.f.i, .bool m.c.f.z, .bool m.c.f.c, rv, cv] : Array Value).setIfInBounds k u =
      #[.int .u8 m'.c.a, .int .u8 m'.c.x, .int .u8 m'.c.y, .int .u8 m'.c.s, .int .u16 m'.c.pc, .bool m'.c.f.n, .bool m'.c.f.v, .bool m'.c.f.d, .bool m'.c.f.i, .bool m'.c.f.z, .bool m'.c.f.c, rv, cv]) :
    St B w0 b g m' (w.setCell ⟨b, k, none⟩ u) := by
  obtain ⟨hB, hG, h1, h2, h3, hf, h4, h5, h6, cap, cv, h7, h8, h9⟩ := h
  refine ⟨hB, hG, h1, h2.setCell h1 _, by simpa [World.setCell] using h3, hf.trans (Fr.put (Or.inl rfl) k u), hok, by rw [hr]; exact h5, by rw [hr]; exact h6, cap, cv, ?_, ?_, ?_⟩
  · rw [← he, hr]
    exact h7.put k u
  · rw [hr]
    exact own_far h8 (p := ⟨b, k, none⟩) (own_apart h8 h7 (by decide)) u
  · rw [hc]
    exact own_far h9 (p := ⟨b, k, none⟩) (own_apart h9 h7 (by decide)) u
theorem St.setA (h : St B w0 b g m w) {v : Int} (hv : 0 ≤ v ∧ v < 256) : St B w0 b g { m with c := { m.c with a := v } } (w.setCell ⟨b, 0, none⟩ (.int .u8 v)) :=
  h.put 0 _ _ rfl rfl ⟨hv, h.cok.2⟩ (fun _ _ => rfl)
theorem St.setX (h : St B w0 b g m w) {v : Int} (hv : 0 ≤ v ∧ v < 256) : St B w0 b g { m with c := { m.c with x := v } } (w.setCell ⟨b, 1, none⟩ (.int .u8 v)) :=
  h.put 1 _ _ rfl rfl ⟨h.cok.1, hv, h.cok.2.2⟩ (fun _ _ => rfl)
theorem St.setY (h : St B w0 b g m w) {v : Int} (hv : 0 ≤ v ∧ v < 256) : St B w0 b g { m with c := { m.c with y := v } } (w.setCell ⟨b, 2, none⟩ (.int .u8 v)) :=
  h.put 2 _ _ rfl rfl ⟨h.cok.1, h.cok.2.1, hv, h.cok.2.2.2⟩ (fun _ _ => rfl)
theorem St.setS (h : St B w0 b g m w) {v : Int} (hv : 0 ≤ v ∧ v < 256) : St B w0 b g { m with c := { m.c with s := v } } (w.setCell ⟨b, 3, none⟩ (.int .u8 v)) :=
  h.put 3 _ _ rfl rfl ⟨h.cok.1, h.cok.2.1, h.cok.2.2.1, hv, h.cok.2.2.2.2⟩ (fun _ _ => rfl)
theorem St.setPC (h : St B w0 b g m w) {v : Int} (hv : 0 ≤ v ∧ v < 65536) : St B w0 b g { m with c := { m.c with pc := v } } (w.setCell ⟨b, 4, none⟩ (.int .u16 v)) :=
  h.put 4 _ _ rfl rfl ⟨h.cok.1, h.cok.2.1, h.cok.2.2.1, h.cok.2.2.2.1, hv⟩ (fun _ _ => rfl)
theorem St.setFN (h : St B w0 b g m w) (v : Bool) : St B w0 b g { m with c := { m.c with f := { m.c.f with n := v } } } (w.setCell ⟨b, 5, none⟩ (.bool v)) := h.put 5 _ _ rfl rfl h.cok (fun _ _ => rfl)
theorem St.setFV (h : St B w0 b g m w) (v : Bool) : St B w0 b g { m with c := { m.c with f := { m.c.f with v := v } } } (w.setCell ⟨b, 6, none⟩ (.bool v)) := h.put 6 _ _ rfl rfl h.cok (fun _ _ => rfl)
theorem St.setFD (h : St B w0 b g m w) (v : Bool) : St B w0 b g { m with c := { m.c with f := { m.c.f with d := v } } } (w.setCell ⟨b, 7, none⟩ (.bool v)) := h.put 7 _ _ rfl rfl h.cok (fun _ _ => rfl)
theorem St.setFI (h : St B w0 b g m w) (v : Bool) : St B w0 b g { m with c := { m.c with f := { m.c.f with i := v } } } (w.setCell ⟨b, 8, none⟩ (.bool v)) := h.put 8 _ _ rfl rfl h.cok (fun _ _ => rfl)
theorem St.setFZ (h : St B w0 b g m w) (v : Bool) : St B w0 b g { m with c := { m.c with f := { m.c.f with z := v } } } (w.setCell ⟨b, 9, none⟩ (.bool v)) := h.put 9 _ _ rfl rfl h.cok (fun _ _ => rfl)
theorem St.setFC (h : St B w0 b g m w) (v : Bool) : St B w0 b g { m with c := { m.c with f := { m.c.f with c := v } } } (w.setCell ⟨b, 10, none⟩ (.bool v)) := h.put 10 _ _ rfl rfl h.cok (fun _ _ => rfl)
theorem St.setF (h : St B w0 b g m w) (n v d i z c : Bool) : St B w0 b g { m with c := { m.c with f := ⟨n, v, d, i, z, c⟩ } }
    ((((((w.setCell ⟨b, 5, none⟩ (.bool n)).setCell ⟨b, 6, none⟩ (.bool v)).setCell ⟨b, 7, none⟩ (.bool d)).setCell ⟨b, 8, none⟩ (.bool i)).setCell ⟨b, 9, none⟩ (.bool z)).setCell ⟨b, 10, none⟩ (.bool c)) :=
  (((((h.setFN n).setFV v).setFD d).setFI i).setFZ z).setFC c
/-- The block's cells, written out for the walk. -/
theorem St.open_ (h : St B w0 b g m w) : ∃ cap cv, (∀ i, w.cell? ⟨b, i, none⟩ = (#[.int .u8 m.c.a, .int .u8 m.c.x, .int .u8 m.c.y, .int .u8 m.c.s, .int .u16 m.c.pc, .bool m.c.f.n, .bool m.c.f.v, .bool m.c.f.d, .bool m.c.f.i, .bool m.c.f.z, .bool m.c.f.c, .slice (some ⟨g, 0, none⟩) m.ram.length cap, cv] : Array Value)[i]?) ∧
    (∀ i, w.frozen? ⟨b, i, none⟩ = false) ∧ w.ownsRow B 5 1 (.slice (some ⟨g, 0, none⟩) m.ram.length cap) m.ram.length (nums .u8 m.ram) ∧ w.ownsRow B 44 3 cv m.cy.length (cyCells m.cy) := by
  obtain ⟨cap, cv, h7, h8, h9⟩ := h.mem
  exact ⟨cap, cv, h7.cell, h7.frozen, h8, h9⟩
theorem St.lt (h : St B w0 b g m w) : b < w.heap.size := by
  obtain ⟨cap, cv, h7, h8, h9⟩ := h.mem
  exact h7.lt
theorem St.ltg (h : St B w0 b g m w) : B ≤ g ∧ g < w.heap.size ∧ g ≠ b := by
  obtain ⟨cap, cv, h7, h8, h9⟩ := h.mem
  have hne := own_apart h8 h7 (by decide)
  exact ⟨(h8.lt g rfl).1, (h8.lt g rfl).2, fun e => hne (by simp [Value.ownBlock, e])⟩
end
end Go.Proofs.YtemahcjglmhefaaGreatDoor
