/- The table of operations: what a byte is, by its row, part and side. No condition. Name, mode, size and kind of a byte. No condition. What an operation does with its operand. No condition. What an operation without an operand does. No condition. The machine's plain functions: places, branches, the stack, a step. No condition. What is true of all bytes, by the table. No condition. Places: they leave the registers and the memory alone, and lie in range. No condition. -/
import Derived.Test.YtemahcjglmhefaaGreatDoorKBase
import Derived.Handy
namespace Go.Proofs.YtemahcjglmhefaaGreatDoor
set_option linter.unusedVariables false
set_option linter.unusedSimpArgs false
open Go.RowKit

def wordF (s : List UInt8) (n : Int) : List UInt8 := if (Lib.fields s).getD n.toNat [] == [46] then [] else (Lib.fields s).getD n.toNat []
theorem word_c (s : ByteArray) (n : Int) (hs : s.size < 1000) (hascii : s.data.toList.all (fun b => decide (b.toNat < 128)) = true) (hn : 0 ≤ n ∧ n < ((Lib.fields s.data.toList).length : Int)) (w : World) (hG : Gl w) :
    Calls Tryz.prog 64 #[.string s, .int .i64 n] w fun e w' => e = .returned (.string ⟨(wordF s.data.toList n).toArray⟩) ∧ Below w.heap.size w w' := by
  have ha : ∀ (j : Nat) b, s.data.toList[j]? = some b → b.toNat < 128 := fun j b hb => by
    exact of_decide_eq_true (List.all_eq_true.1 hascii b (List.mem_of_getElem? hb))
  have hw : ∀ l : List UInt8, l = (Lib.fields s.data.toList).getD n.toNat [] → wordF s.data.toList n = if l == [46] then [] else l := fun l hl => by rw [hl]; rfl
  have HW := Lib.hid hw
  clear hw
  have htab := hG.tab
  have hc := Tryz.strings_Fields_laid s w (by omega) ha htab
  generalize Lib.fields s.data.toList = L at *
  obtain ⟨n, rfl⟩ := Int.eq_ofNat_of_zero_le hn.1
  have hn1 : n < L.length := by omega
  have hL : L[n]? = some (L.getD n []) := by simp [List.getD_eq_getElem?_getD, hn1]
  have hcell : (w.alloc (.cells (L.map fun l => Value.string ⟨l.toArray⟩).toArray 9)).cell? ⟨w.heap.size, n, none⟩ = some (.string ⟨(L.getD n []).toArray⟩) := by
    rw [cell_of_row _ _ _ _ _ _ (heap_alloc_new w _)]
    rw [List.getElem?_toArray, List.getElem?_map, hL]
    rfl
  obtain ⟨l, hl⟩ : ∃ l, l = L.getD n [] := ⟨_, rfl⟩
  have HL := Lib.hid hl
  rw [← hl] at hcell
  have i1 : (n : Int) < (L.length : Int) := by omega
  clear hG htab ha hL hl hascii hs
  go_enter Tryz.func64, Tryz.ntmps64
  go_wp2_with (go_at_call 88; refine hc.mono ?_; rintro e w1 ⟨rfl, rfl⟩)
  all_goals
    go_ret
    refine ⟨?_, Dn.al w _⟩
    have hq := HW.out l (by rw [HL.out]; rfl)
    rename_i hb
    rw [hq]
    simp only [Bool.not_eq_eq_eq_not, Bool.not_true, Bool.not_false] at hb
    simp [hb]
def zN0 (row : Int) : List UInt8 × Int := (wordF [66, 82, 75, 32, 74, 83, 82, 32, 82, 84, 73, 32, 82, 84, 83, 32, 46, 32, 76, 68, 89, 32, 67, 80, 89, 32, 67, 80, 88] row, if row = 1 then 6 else if row < 4 then 0 else 2)
def szF (row part : Int) : List UInt8 × Int :=
  if part = 0 then zN0 row else if part = 1 then (wordF [46, 32, 66, 73, 84, 32, 46, 32, 46, 32, 83, 84, 89, 32, 76, 68, 89, 32, 67, 80, 89, 32, 67, 80, 88] row, 3) else if part = 2 then (wordF [80, 72, 80, 32, 80, 76, 80, 32, 80, 72, 65, 32, 80, 76, 65, 32, 68, 69, 89, 32, 84, 65, 89, 32, 73, 78, 89, 32, 73, 78, 88] row, 0)
  else if part = 3 then (if row = 3 then ([74, 77, 80], 9) else (wordF [46, 32, 66, 73, 84, 32, 74, 77, 80, 32, 46, 32, 83, 84, 89, 32, 76, 68, 89, 32, 67, 80, 89, 32, 67, 80, 88] row, 6)) else if part = 4 then (wordF [66, 80, 76, 32, 66, 77, 73, 32, 66, 86, 67, 32, 66, 86, 83, 32, 66, 67, 67, 32, 66, 67, 83, 32, 66, 78, 69, 32, 66, 69, 81] row, 12)
  else if part = 5 then (wordF [46, 32, 46, 32, 46, 32, 46, 32, 83, 84, 89, 32, 76, 68, 89, 32, 46, 32, 46] row, 4) else if part = 6 then (wordF [67, 76, 67, 32, 83, 69, 67, 32, 67, 76, 73, 32, 83, 69, 73, 32, 84, 89, 65, 32, 67, 76, 86, 32, 67, 76, 68, 32, 83, 69, 68] row, 0) else (wordF [46, 32, 46, 32, 46, 32, 46, 32, 46, 32, 76, 68, 89, 32, 46, 32, 46] row, 7)
theorem word8_c (s : ByteArray) (n : Int) (hs : s.size < 1000) (hascii : s.data.toList.all (fun b => decide (b.toNat < 128)) = true) (h8 : (Lib.fields s.data.toList).length = 8) (hn : 0 ≤ n ∧ n < 8) (w : World) (hG : Gl w) :
    Calls Tryz.prog 64 #[.string s, .int .i64 n] w fun e w' => e = .returned (.string ⟨(wordF s.data.toList n).toArray⟩) ∧ Below w.heap.size w w' :=
  word_c s n hs hascii (by omega) w hG
set_option maxHeartbeats 1000000 in
theorem sideZero_c (row part : Int) (hr : 0 ≤ row ∧ row < 8) (hp : 0 ≤ part ∧ part < 8) (w : World) (hG : Gl w) :
    Calls Tryz.prog 63 #[.int .i64 row, .int .i64 part] w fun e w' => e = .returned (.tuple #[.string ⟨(szF row part).1.toArray⟩, .int .i64 (szF row part).2]) ∧ Below w.heap.size w w' := by
  go_enter Tryz.func63, Tryz.ntmps63
  go_wp2_with (go_at_call 64; refine (word8_c _ _ (by decide) (by decide +kernel) (by decide +kernel) hr _ hG).mono ?_; rintro e w1 ⟨rfl, hb1⟩)
  all_goals go_returns
  all_goals try simp only [beq_iff_eq, beq_eq_false_iff_ne, ne_eq] at *
  all_goals first | exact ⟨by simp [szF, zN0, *], hb1⟩ | exact ⟨by simp [szF, zN0, *], Below.refl _ _⟩
def twoN (row : Int) : List UInt8 := wordF [65, 83, 76, 32, 82, 79, 76, 32, 76, 83, 82, 32, 82, 79, 82, 32, 83, 84, 88, 32, 76, 68, 88, 32, 68, 69, 67, 32, 73, 78, 67] row
def stF (row part : Int) : List UInt8 × Int :=
  let byX := !(twoN row == [83, 84, 88]) && !(twoN row == [76, 68, 88])
  if part = 0 then (wordF [46, 32, 46, 32, 46, 32, 46, 32, 46, 32, 76, 68, 88, 32, 46, 32, 46] row, 2) else if part = 1 then (twoN row, 3)
  else if part = 2 then (if row < 4 then (twoN row, 1) else (wordF [46, 32, 46, 32, 46, 32, 46, 32, 84, 88, 65, 32, 84, 65, 88, 32, 68, 69, 88, 32, 78, 79, 80] row, 0))
  else if part = 3 then (twoN row, 6) else if part = 5 then (if byX = true then (twoN row, 4) else (twoN row, 5))
  else if part = 6 then (wordF [46, 32, 46, 32, 46, 32, 46, 32, 84, 88, 83, 32, 84, 83, 88, 32, 46, 32, 46] row, 0)
  else if part = 7 then (if byX = true then (twoN row, 7) else (wordF [46, 32, 46, 32, 46, 32, 46, 32, 46, 32, 76, 68, 88, 32, 46, 32, 46] row, 8)) else ([], -1)
set_option maxHeartbeats 1000000 in
theorem sideTwo_c (row part : Int) (hr : 0 ≤ row ∧ row < 8) (hp : 0 ≤ part ∧ part < 8) (w : World) (hG : Gl w) :
    Calls Tryz.prog 65 #[.int .i64 row, .int .i64 part] w fun e w' => e = .returned (.tuple #[.string ⟨(stF row part).1.toArray⟩, .int .i64 (stF row part).2]) ∧ Below w.heap.size w w' := by
  have HT : Hid (twoN row = wordF [65, 83, 76, 32, 82, 79, 76, 32, 76, 83, 82, 32, 82, 79, 82, 32, 83, 84, 88, 32, 76, 68, 88, 32, 68, 69, 67, 32, 73, 78, 67] row) := rfl
  go_enter Tryz.func65, Tryz.ntmps65
  go_wp2_with fail
  refine (word8_c _ _ (by decide) (by decide +kernel) (by decide +kernel) hr _ hG).mono ?_
  rintro e w1 ⟨rfl, hb1⟩
  simp only []
  rw [← HT.out]
  have hG1 := hG.later hb1
  clear hG
  generalize hq : twoN row = q at *
  have HQ := Lib.hid hq
  clear hq
  go_wp2_with (go_at_call 64; refine (word8_c _ _ (by decide) (by decide +kernel) (by decide +kernel) hr _ hG1).mono ?_; rintro e w2 ⟨rfl, hb2⟩)
  all_goals go_returns
  all_goals have hq := HQ.out
  all_goals try simp only [beq_iff_eq, beq_eq_false_iff_ne, ne_eq] at *
  all_goals refine ⟨?_, by first | exact hb1.trans (hb2.mono hb1.size) | exact hb1⟩
  all_goals first | (simp [stF, *]; done) | (simp_all [stF]; done) | (have hn : ¬ row < 4 := (by omega); simp [stF, hn, *]; done)
def oneN (row : Int) : List UInt8 := wordF [79, 82, 65, 32, 65, 78, 68, 32, 69, 79, 82, 32, 65, 68, 67, 32, 83, 84, 65, 32, 76, 68, 65, 32, 67, 77, 80, 32, 83, 66, 67] row
def oneM (part : Int) : Int := rd [10, 3, 2, 6, 11, 4, 8, 7] part
def opRaw (code : Int) : List UInt8 × Int :=
  if code % 4 = 0 then szF (code / 32) (code / 4 % 8)
  else if code % 4 = 1 then ((if oneN (code / 32) == [83, 84, 65] && oneM (code / 4 % 8) == 2 then [] else oneN (code / 32)), oneM (code / 4 % 8))
  else if code % 4 = 2 then stF (code / 32) (code / 4 % 8) else ([], -1)
def opF (code : Int) : List UInt8 × Int := if (opRaw code).1 == [] then ([], -1) else opRaw code
theorem and7_eq (b : Int) (h0 : 0 ≤ b) (h1 : b < 256) : bits BinOp.and IntKind.u8 (b / 4) 7 = b / 4 % 8 := by
  have : ∀ k : Fin 256, bits BinOp.and IntKind.u8 ((k.val : Int) / 4) 7 = (k.val : Int) / 4 % 8 := by decide +kernel
  obtain ⟨m, rfl⟩ := Int.eq_ofNat_of_zero_le h0
  exact this ⟨m, by omega⟩
theorem and3_eq (b : Int) (h0 : 0 ≤ b) (h1 : b < 256) : bits BinOp.and IntKind.u8 b 3 = b % 4 := by
  have : ∀ k : Fin 256, bits BinOp.and IntKind.u8 (k.val : Int) 3 = (k.val : Int) % 4 := by decide +kernel
  obtain ⟨m, rfl⟩ := Int.eq_ofNat_of_zero_le h0
  exact this ⟨m, by omega⟩
set_option maxHeartbeats 1000000 in
theorem operation_c02 (code : Int) (h0 : 0 ≤ code) (h1 : code < 256) (w : World) (hG : Gl w) (hs : code % 4 ≠ 1) :
    Calls Tryz.prog 32 #[.int .u8 code] w fun e w' => e = .returned (.tuple #[.string ⟨(opF code).1.toArray⟩, .int .i64 (opF code).2]) ∧ Below w.heap.size w w' := by
  have e1 := and7_eq code h0 h1
  have e2 := and3_eq code h0 h1
  have hr : 0 ≤ code / 32 ∧ code / 32 < 8 := by omega
  have hp : 0 ≤ code / 4 % 8 ∧ code / 4 % 8 < 8 := by omega
  have hs1 : (code % 4 == 1) = false := by simpa using hs
  go_enter Tryz.func32, Tryz.ntmps32
  go_wp2_with (first | (go_at_call 63; refine (sideZero_c _ _ hr hp _ hG).mono ?_; rintro e w1 ⟨rfl, hb1⟩) | (go_at_call 65; refine (sideTwo_c _ _ hr hp _ hG).mono ?_; rintro e w1 ⟨rfl, hb1⟩))
  all_goals go_returns
  all_goals refine ⟨?_, by first | exact hb1 | exact Below.refl _ _⟩
  all_goals first | (simp [opF, opRaw, *]; done) | (simp_all [opF, opRaw]; done)
set_option maxHeartbeats 1000000 in
theorem operation_c1 (code : Int) (h0 : 0 ≤ code) (h1 : code < 256) (w : World) (hG : Gl w) (hs : code % 4 = 1) :
    Calls Tryz.prog 32 #[.int .u8 code] w fun e w' => e = .returned (.tuple #[.string ⟨(opF code).1.toArray⟩, .int .i64 (opF code).2]) ∧ Below w.heap.size w w' := by
  have e1 := and7_eq code h0 h1
  have e2 := and3_eq code h0 h1
  have hr : 0 ≤ code / 32 ∧ code / 32 < 8 := by omega
  have hp : 0 ≤ code / 4 % 8 ∧ code / 4 % 8 < 8 := by omega
  have hO : oneN (code / 32) = wordF [79, 82, 65, 32, 65, 78, 68, 32, 69, 79, 82, 32, 65, 68, 67, 32, 83, 84, 65, 32, 76, 68, 65, 32, 67, 77, 80, 32, 83, 66, 67] (code / 32) := rfl
  by_cases hq : oneN (code / 32) = [83, 84, 65]
  all_goals
    rw [hO] at hq
    obtain hh | hh | hh | hh | hh | hh | hh | hh : code / 4 % 8 = 0 ∨ code / 4 % 8 = 1 ∨ code / 4 % 8 = 2 ∨ code / 4 % 8 = 3 ∨ code / 4 % 8 = 4 ∨ code / 4 % 8 = 5 ∨ code / 4 % 8 = 6 ∨ code / 4 % 8 = 7 := by omega
    all_goals
      go_enter Tryz.func32, Tryz.ntmps32
      go_wp2_with (go_at_call 64; refine (word8_c _ _ (by decide) (by decide +kernel) (by decide +kernel) hr _ hG).mono ?_; rintro e w1 ⟨rfl, hb1⟩)
      all_goals go_returns
      all_goals refine ⟨?_, hb1.alloc hb1.size _⟩
      all_goals (simp_all [opF, opRaw, oneM, rd]; done)
theorem operation_c (code : Int) (h0 : 0 ≤ code) (h1 : code < 256) (w : World) (hG : Gl w) :
    Calls Tryz.prog 32 #[.int .u8 code] w fun e w' => e = .returned (.tuple #[.string ⟨(opF code).1.toArray⟩, .int .i64 (opF code).2]) ∧ Below w.heap.size w w' := by
  by_cases hs : code % 4 = 1
  · exact operation_c1 code h0 h1 w hG hs
  · exact operation_c02 code h0 h1 w hG hs
end Go.Proofs.YtemahcjglmhefaaGreatDoor
namespace Go.Proofs.YtemahcjglmhefaaGreatDoor
set_option linter.unusedVariables false
set_option linter.unusedSimpArgs false
open Go.RowKit

def sizeF (m : Int) : Int := if m = -1 then 0 else if m = 0 ∨ m = 1 then 1 else if m = 6 ∨ m = 7 ∨ m = 8 ∨ m = 9 then 3 else 2
def kindF (r : List UInt8 × Int) : Int :=
  if r.1 = [] then 0 else if r.2 = 12 then 5 else if r.1 = [74, 77, 80] then 6 else if r.1 = [74, 83, 82] then 7 else if r.1 = [82, 84, 83] then 8 else if r.1 = [82, 84, 73] then 9 else if r.1 = [66, 82, 75] then 10
  else if r.1 = [80, 72, 65] ∨ r.1 = [80, 72, 80] then 11 else if r.1 = [80, 76, 65] ∨ r.1 = [80, 76, 80] then 12 else if r.1 = [83, 84, 65] ∨ r.1 = [83, 84, 88] ∨ r.1 = [83, 84, 89] then 3
  else if r.2 = 0 ∨ r.2 = 1 then 1 else if Lib.contains [65, 83, 76, 32, 76, 83, 82, 32, 82, 79, 76, 32, 82, 79, 82, 32, 73, 78, 67, 32, 68, 69, 67] r.1 = true then 4 else 2
theorem NameOf_c (code : Int) (h0 : 0 ≤ code) (h1 : code < 256) (w : World) (hG : Gl w) :
    Calls Tryz.prog 53 #[.int .u8 code] w fun e w' => e = .returned (.string ⟨(opF code).1.toArray⟩) ∧ Below w.heap.size w w' := by
  go_enter Tryz.func53, Tryz.ntmps53
  go_wp2_with (go_at_call 32; refine (operation_c _ h0 h1 _ hG).mono ?_; rintro e w1 ⟨rfl, hb1⟩)
  go_returns
  exact ⟨rfl, hb1⟩
theorem ModeOf_c (code : Int) (h0 : 0 ≤ code) (h1 : code < 256) (w : World) (hG : Gl w) :
    Calls Tryz.prog 84 #[.int .u8 code] w fun e w' => e = .returned (.int .i64 (opF code).2) ∧ Below w.heap.size w w' := by
  go_enter Tryz.func84, Tryz.ntmps84
  go_wp2_with (go_at_call 32; refine (operation_c _ h0 h1 _ hG).mono ?_; rintro e w1 ⟨rfl, hb1⟩)
  go_returns
  exact ⟨rfl, hb1⟩
theorem SizeOf_c (code : Int) (h0 : 0 ≤ code) (h1 : code < 256) (w : World) (hG : Gl w) :
    Calls Tryz.prog 61 #[.int .u8 code] w fun e w' => e = .returned (.int .i64 (sizeF (opF code).2)) ∧ Below w.heap.size w w' := by
  go_enter Tryz.func61, Tryz.ntmps61
  go_wp2_with fail
  refine (ModeOf_c _ h0 h1 _ hG).mono ?_
  rintro e w1 ⟨rfl, hb1⟩
  generalize hq : (opF code).2 = m at *
  have HQ := Lib.hid hq
  clear hq
  go_wp2
  all_goals go_returns
  all_goals refine ⟨?_, hb1⟩
  all_goals have hq := HQ.out
  all_goals first | (simp [sizeF, *]; done) | (simp_all [sizeF]; done)
theorem Contains_c (s sub : ByteArray) (w : World) (hs : s.size < 4294967281) (hG : Gl w) :
    Calls Tryz.prog 77 #[.string s, .string sub] w fun e w' => e = .returned (.bool (Lib.contains s.data.toList sub.data.toList)) ∧ w' = w := by
  obtain ⟨_, _, m, hm⟩ := hG
  exact Tryz.strings_Contains s sub m w hs hm
set_option maxHeartbeats 1000000 in
theorem KindOf_c (code : Int) (h0 : 0 ≤ code) (h1 : code < 256) (w : World) (hG : Gl w) :
    Calls Tryz.prog 55 #[.int .u8 code] w fun e w' => e = .returned (.int .i64 (kindF (opF code))) ∧ Below w.heap.size w w' := by
  go_enter Tryz.func55, Tryz.ntmps55
  go_wp2_with fail
  refine (operation_c _ h0 h1 _ hG).mono ?_
  rintro e w1 ⟨rfl, hb1⟩
  have hG1 := hG.later hb1
  generalize hq : opF code = r at *
  obtain ⟨n, m⟩ := r
  have HQ := Lib.hid hq
  clear hq
  clear hG
  go_wp2_with (go_at_call 77; refine (Contains_c _ _ _ (by decide) hG1).mono ?_; rintro e w2 ⟨rfl, rfl⟩)
  all_goals go_returns
  all_goals refine ⟨?_, hb1⟩
  all_goals have hq := HQ.out
  all_goals first | (simp [kindF, *]; done) | (simp_all [kindF]; done)
end Go.Proofs.YtemahcjglmhefaaGreatDoor
namespace Go.Proofs.YtemahcjglmhefaaGreatDoor
set_option linter.unusedVariables false
set_option linter.unusedSimpArgs false

def doF (l : List UInt8) (b : Int) (c : Cp) : Int × Cp :=
  if l = [76, 68, 65] then (b, { c with a := b, f := nzF b c.f })
  else if l = [76, 68, 88] then (b, { c with x := b, f := nzF b c.f })
  else if l = [76, 68, 89] then (b, { c with y := b, f := nzF b c.f })
  else if l = [79, 82, 65] then (bits BinOp.or IntKind.u8 c.a b, { c with a := bits BinOp.or IntKind.u8 c.a b, f := nzF (bits BinOp.or IntKind.u8 c.a b) c.f })
  else if l = [65, 78, 68] then (bits BinOp.and IntKind.u8 c.a b, { c with a := bits BinOp.and IntKind.u8 c.a b, f := nzF (bits BinOp.and IntKind.u8 c.a b) c.f })
  else if l = [69, 79, 82] then (bits BinOp.xor IntKind.u8 c.a b, { c with a := bits BinOp.xor IntKind.u8 c.a b, f := nzF (bits BinOp.xor IntKind.u8 c.a b) c.f })
  else if l = [65, 68, 67] then (b, { c with a := (adcF c.a b c.f).1, f := (adcF c.a b c.f).2 })
  else if l = [83, 66, 67] then (b, { c with a := (sbcF c.a b c.f).1, f := (sbcF c.a b c.f).2 })
  else if l = [67, 77, 80] then (b, { c with f := cmpF c.a b c.f })
  else if l = [67, 80, 88] then (b, { c with f := cmpF c.x b c.f })
  else if l = [67, 80, 89] then (b, { c with f := cmpF c.y b c.f })
  else if l = [66, 73, 84] then (b, { c with f := bitTestF c.a b c.f })
  else if l = [65, 83, 76] then ((aslF b c.f).1, { c with f := (aslF b c.f).2 })
  else if l = [76, 83, 82] then ((lsrF b c.f).1, { c with f := (lsrF b c.f).2 })
  else if l = [82, 79, 76] then ((rolF b c.f).1, { c with f := (rolF b c.f).2 })
  else if l = [82, 79, 82] then ((rorF b c.f).1, { c with f := (rorF b c.f).2 })
  else if l = [73, 78, 67] then ((b + 1) % 256, { c with f := nzF ((b + 1) % 256) c.f })
  else if l = [68, 69, 67] then ((b - 1) % 256, { c with f := nzF ((b - 1) % 256) c.f })
  else (b, c)
theorem bits_u8_range (o : BinOp) (ho : o = .or ∨ o = .and ∨ o = .xor) (a b : Int) (ha : 0 ≤ a ∧ a < 256) (hb : 0 ≤ b ∧ b < 256) : 0 ≤ bits o .u8 a b ∧ bits o .u8 a b < 256 := by
  have hA : a.toNat < 256 := by omega
  have hB : b.toNat < 256 := by omega
  rcases ho with rfl | rfl | rfl
  · rw [u8_or _ _ ha.1 ha.2 hb.1 hb.2]
    have := Nat.or_lt_two_pow (n := 8) hA hB
    omega
  · rw [u8_and _ _ ha.1 ha.2 hb.1 hb.2]
    have := Nat.and_lt_two_pow (n := 8) a.toNat hB
    omega
  · rw [u8_xor _ _ ha.1 ha.2 hb.1 hb.2]
    have := Nat.xor_lt_two_pow (n := 8) hA hB
    omega
theorem sbcF_ok (a b : Int) (f : Fl) : 0 ≤ (sbcF a b f).1 ∧ (sbcF a b f).1 < 256 := by
  have := adcF_ok a (255 - b) { f with d := false }
  unfold sbcF
  split
  · simp only []
    omega
  · exact this
theorem ite_ok {c : Prop} [Decidable c] {a b : Int × Cp} (h : 0 ≤ a.1 ∧ a.1 < 256) (k : 0 ≤ b.1 ∧ b.1 < 256) : 0 ≤ (if c then a else b).1 ∧ (if c then a else b).1 < 256 := by
  split
  · exact h
  · exact k
theorem doF_ok (l : List UInt8) (b : Int) (c : Cp) (hb : 0 ≤ b ∧ b < 256) (hc : c.ok) : 0 ≤ (doF l b c).1 ∧ (doF l b c).1 < 256 := by
  have e1 := bits_u8_range .or (by simp) c.a b hc.1 hb
  have e2 := bits_u8_range .and (by simp) c.a b hc.1 hb
  have e3 := bits_u8_range .xor (by simp) c.a b hc.1 hb
  have e4 := oneB_le c.f.c
  unfold doF aslF lsrF rolF rorF
  repeat' refine ite_ok ?_ ?_
  all_goals first | exact hb | exact e1 | exact e2 | exact e3 | (simp only []; omega)
def Ms.do_ (m : Ms) (l : List UInt8) (b : Int) : Ms := { m with c := (doF l b m.c).2 }
end Go.Proofs.YtemahcjglmhefaaGreatDoor
namespace Go.Proofs.YtemahcjglmhefaaGreatDoor
set_option linter.unusedVariables false
set_option linter.unusedSimpArgs false

def impF (l : List UInt8) (c : Cp) : Cp :=
  if l = [65, 83, 76] ∨ l = [76, 83, 82] ∨ l = [82, 79, 76] ∨ l = [82, 79, 82] then { (doF l c.a c).2 with a := (doF l c.a c).1 }
  else if l = [73, 78, 88] then { c with x := (c.x + 1) % 256, f := nzF ((c.x + 1) % 256) c.f }
  else if l = [73, 78, 89] then { c with y := (c.y + 1) % 256, f := nzF ((c.y + 1) % 256) c.f }
  else if l = [68, 69, 88] then { c with x := (c.x - 1) % 256, f := nzF ((c.x - 1) % 256) c.f }
  else if l = [68, 69, 89] then { c with y := (c.y - 1) % 256, f := nzF ((c.y - 1) % 256) c.f }
  else if l = [84, 65, 88] then { c with x := c.a, f := nzF c.a c.f }
  else if l = [84, 88, 65] then { c with a := c.x, f := nzF c.x c.f }
  else if l = [84, 65, 89] then { c with y := c.a, f := nzF c.a c.f }
  else if l = [84, 89, 65] then { c with a := c.y, f := nzF c.y c.f }
  else if l = [84, 83, 88] then { c with x := c.s, f := nzF c.s c.f }
  else if l = [84, 88, 83] then { c with s := c.x }
  else if l = [67, 76, 67] then { c with f := { c.f with c := false } }
  else if l = [83, 69, 67] then { c with f := { c.f with c := true } }
  else if l = [67, 76, 73] then { c with f := { c.f with i := false } }
  else if l = [83, 69, 73] then { c with f := { c.f with i := true } }
  else if l = [67, 76, 68] then { c with f := { c.f with d := false } }
  else if l = [83, 69, 68] then { c with f := { c.f with d := true } }
  else if l = [67, 76, 86] then { c with f := { c.f with v := false } }
  else c
def Ms.imp (m : Ms) (l : List UInt8) : Ms := { m with c := impF l m.c }
end Go.Proofs.YtemahcjglmhefaaGreatDoor
namespace Go.Proofs.YtemahcjglmhefaaGreatDoor
set_option linter.unusedVariables false
set_option linter.unusedSimpArgs false

def Ms.setPC (m : Ms) (v : Int) : Ms := { m with c := { m.c with pc := v } }
def Ms.setS (m : Ms) (v : Int) : Ms := { m with c := { m.c with s := v } }
def Ms.setF (m : Ms) (f : Fl) : Ms := { m with c := { m.c with f := f } }
def u16 (x : Int) : Int := x % 65536
def u8 (x : Int) : Int := x % 256
def pageOf (base e : Int) : Int := base / 256 * 256 + e % 256
def placeEnd (kind base e : Int) (m : Ms) : Int × Ms := if kind ≠ 2 ∨ pageOf base e ≠ e then (e, m.read (pageOf base e)) else (e, m)
def placeF (mode kind : Int) (m : Ms) : Int × Ms :=
  if mode = 3 then (m.look (u16 (m.c.pc + 1)), m.read (u16 (m.c.pc + 1)))
  else if mode = 4 then (u8 (m.look (u16 (m.c.pc + 1)) + m.c.x), (m.read (u16 (m.c.pc + 1))).read (m.look (u16 (m.c.pc + 1))))
  else if mode = 5 then (u8 (m.look (u16 (m.c.pc + 1)) + m.c.y), (m.read (u16 (m.c.pc + 1))).read (m.look (u16 (m.c.pc + 1))))
  else if mode = 10 then (m.word (u8 (m.look (u16 (m.c.pc + 1)) + m.c.x)) (u8 (m.look (u16 (m.c.pc + 1)) + m.c.x + 1)),
    ((m.read (u16 (m.c.pc + 1))).read (m.look (u16 (m.c.pc + 1)))).read2 (u8 (m.look (u16 (m.c.pc + 1)) + m.c.x)) (u8 (m.look (u16 (m.c.pc + 1)) + m.c.x + 1)))
  else if mode = 11 then placeEnd kind (m.word (m.look (u16 (m.c.pc + 1))) (u8 (m.look (u16 (m.c.pc + 1)) + 1))) (u16 (m.word (m.look (u16 (m.c.pc + 1))) (u8 (m.look (u16 (m.c.pc + 1)) + 1)) + m.c.y))
    ((m.read (u16 (m.c.pc + 1))).read2 (m.look (u16 (m.c.pc + 1))) (u8 (m.look (u16 (m.c.pc + 1)) + 1)))
  else if mode = 6 then (m.word (u16 (m.c.pc + 1)) (u16 (m.c.pc + 2)), m.read2 (u16 (m.c.pc + 1)) (u16 (m.c.pc + 2)))
  else if mode = 7 then placeEnd kind (m.word (u16 (m.c.pc + 1)) (u16 (m.c.pc + 2))) (u16 (m.word (u16 (m.c.pc + 1)) (u16 (m.c.pc + 2)) + m.c.x)) (m.read2 (u16 (m.c.pc + 1)) (u16 (m.c.pc + 2)))
  else placeEnd kind (m.word (u16 (m.c.pc + 1)) (u16 (m.c.pc + 2))) (u16 (m.word (u16 (m.c.pc + 1)) (u16 (m.c.pc + 2)) + m.c.y)) (m.read2 (u16 (m.c.pc + 1)) (u16 (m.c.pc + 2)))
def branchF (l : List UInt8) (m : Ms) : Ms :=
  if takenF l m.c.f = true then
    (if pageOf (u16 (m.c.pc + 2)) (targetF m.c.pc (m.look (u16 (m.c.pc + 1)))) ≠ targetF m.c.pc (m.look (u16 (m.c.pc + 1))) then
      (((m.read (u16 (m.c.pc + 1))).setPC (u16 (m.c.pc + 2))).read (u16 (m.c.pc + 2))).read (pageOf (u16 (m.c.pc + 2)) (targetF m.c.pc (m.look (u16 (m.c.pc + 1)))))
     else ((m.read (u16 (m.c.pc + 1))).setPC (u16 (m.c.pc + 2))).read (u16 (m.c.pc + 2))).setPC (targetF m.c.pc (m.look (u16 (m.c.pc + 1))))
  else (m.read (u16 (m.c.pc + 1))).setPC (u16 (m.c.pc + 2))
def stk (s : Int) : Int := 256 + s
def jumpF (mode : Int) (m : Ms) : Ms :=
  if mode = 9 then ((m.read2 (u16 (m.c.pc + 1)) (u16 (m.c.pc + 2))).read2 (m.word (u16 (m.c.pc + 1)) (u16 (m.c.pc + 2))) (pageOf (m.word (u16 (m.c.pc + 1)) (u16 (m.c.pc + 2))) (m.word (u16 (m.c.pc + 1)) (u16 (m.c.pc + 2)) + 1))).setPC
    (m.word (m.word (u16 (m.c.pc + 1)) (u16 (m.c.pc + 2))) (pageOf (m.word (u16 (m.c.pc + 1)) (u16 (m.c.pc + 2))) (m.word (u16 (m.c.pc + 1)) (u16 (m.c.pc + 2)) + 1)))
  else (m.read2 (u16 (m.c.pc + 1)) (u16 (m.c.pc + 2))).setPC (m.word (u16 (m.c.pc + 1)) (u16 (m.c.pc + 2)))
def subPush (m : Ms) : Ms := ((m.read (u16 (m.c.pc + 1))).read (stk m.c.s)).push [u16 (m.c.pc + 2) / 256, u8 (m.c.pc + 2)]
def subF (m : Ms) : Ms := ((subPush m).read (u16 (m.c.pc + 2))).setPC ((subPush m).look (u16 (m.c.pc + 2)) * 256 + m.look (u16 (m.c.pc + 1)))
def backF (m : Ms) : Ms :=
  (((((m.read (u16 (m.c.pc + 1))).read (stk m.c.s)).read2 (stk (u8 (m.c.s + 1))) (stk (u8 (m.c.s + 2)))).read (m.word (stk (u8 (m.c.s + 1))) (stk (u8 (m.c.s + 2))))).setPC (u16 (m.word (stk (u8 (m.c.s + 1))) (stk (u8 (m.c.s + 2))) + 1))).setS (u8 (m.c.s + 2))
def rtiF (m : Ms) : Ms :=
  ((((((m.read (u16 (m.c.pc + 1))).read (stk m.c.s)).read (stk (u8 (m.c.s + 1)))).setF (unpackF (m.look (stk (u8 (m.c.s + 1)))))).read2 (stk (u8 (m.c.s + 2))) (stk (u8 (m.c.s + 3)))).setPC (m.word (stk (u8 (m.c.s + 2))) (stk (u8 (m.c.s + 3))))).setS (u8 (m.c.s + 3))
def vecF (m : Ms) (a b : Int) : Ms := ((m.read2 a b).setPC (m.word a b)).setF { m.c.f with i := true }
def brkF (m : Ms) : Ms := vecF ((m.read (u16 (m.c.pc + 1))).push [u16 (m.c.pc + 2) / 256, u8 (m.c.pc + 2), packF m.c.f true]) 65534 65535
def flowF (kind mode : Int) (l : List UInt8) (m : Ms) : Ms :=
  if kind = 5 then branchF l m else if kind = 6 then jumpF mode m else if kind = 7 then subF m else if kind = 8 then backF m else if kind = 9 then rtiF m else if kind = 10 then brkF m else m
def pullM (m : Ms) : Ms := ((((m.read (u16 (m.c.pc + 1))).read (stk m.c.s)).setS (u8 (m.c.s + 1))).read (stk (u8 (m.c.s + 1))))
def pullF (l : List UInt8) (m : Ms) : Ms :=
  if l = [80, 76, 65] then (pullM m).do_ [76, 68, 65] (m.look (stk (u8 (m.c.s + 1)))) else (pullM m).setF (unpackF (m.look (stk (u8 (m.c.s + 1)))))
def pushF (l : List UInt8) (m : Ms) : Ms := (m.read (u16 (m.c.pc + 1))).push [if l = [80, 72, 65] then m.c.a else packF m.c.f true]
def regF (l : List UInt8) (c : Cp) : Int := if l = [83, 84, 65] then c.a else if l = [83, 84, 88] then c.x else c.y
def modF (l : List UInt8) (e : Int) (m : Ms) : Ms := (((m.read e).write e (m.look e)).do_ l (m.look e)).write e (doF l (m.look e) m.c).1
def operF (kind mode : Int) (l : List UInt8) (m : Ms) : Ms :=
  if mode = 2 then (m.read (u16 (m.c.pc + 1))).do_ l (m.look (u16 (m.c.pc + 1)))
  else if kind = 2 then ((placeF mode kind m).2.read (placeF mode kind m).1).do_ l ((placeF mode kind m).2.look (placeF mode kind m).1)
  else if kind = 3 then (placeF mode kind m).2.write (placeF mode kind m).1 (regF l m.c)
  else modF l (placeF mode kind m).1 (placeF mode kind m).2
def Ms.on (m : Ms) (k : Int) : Ms := m.setPC (u16 (m.c.pc + k))
def stepBy (r : List UInt8 × Int) (m : Ms) : Ms :=
  if kindF r = 1 then ((m.read (u16 (m.c.pc + 1))).imp r.1).on (sizeF r.2)
  else if kindF r = 2 ∨ kindF r = 3 ∨ kindF r = 4 then (operF (kindF r) r.2 r.1 m).on (sizeF r.2)
  else if kindF r = 11 then (pushF r.1 m).on (sizeF r.2)
  else if kindF r = 12 then (pullF r.1 m).on (sizeF r.2)
  else flowF (kindF r) r.2 r.1 m
def stepF (m : Ms) : Ms := stepBy (opF (m.look m.c.pc)) (m.read m.c.pc)
def serveF (m : Ms) (nmi : Bool) : Ms := vecF (((m.read m.c.pc).read m.c.pc).push [m.c.pc / 256, u8 m.c.pc, packF m.c.f false]) (if nmi then 65530 else 65534) (if nmi then 65531 else 65535)

theorem page_eq (b e : Int) (h0 : 0 ≤ b) (h1 : b < 65536) (h2 : 0 ≤ e) (h3 : e < 65536) : bits BinOp.or IntKind.u16 (bits BinOp.and IntKind.u16 b 65280) (bits BinOp.and IntKind.u16 e 255) = pageOf b e := by
  obtain ⟨x, rfl⟩ := Int.eq_ofNat_of_zero_le h0
  obtain ⟨y, rfl⟩ := Int.eq_ofNat_of_zero_le h2
  have hx : bits BinOp.and IntKind.u16 (x : Int) 65280 = (x : Int) / 256 * 256 := by
    rw [show (65280 : Int) = ((65280 : Nat) : Int) from rfl, u16_and_nat x 65280 (by omega) (by decide)]
    have e1 : x &&& 65280 = x / 256 * 256 := by
      have h : x &&& 65280 = 2 ^ 8 * ((x / 2 ^ 8) &&& 255) := by
        apply Nat.eq_of_testBit_eq
        intro i
        rw [Nat.testBit_and, Nat.testBit_two_pow_mul, Nat.testBit_and, Nat.testBit_div_two_pow]
        by_cases hi : 8 ≤ i
        · rw [show (65280 : Nat) = 2 ^ 8 * 255 from rfl, Nat.testBit_two_pow_mul]
          simp [hi]
        · rw [show (65280 : Nat) = 2 ^ 8 * 255 from rfl, Nat.testBit_two_pow_mul]
          simp [hi]
      rw [h, show (255 : Nat) = 2 ^ 8 - 1 from rfl, Nat.and_two_pow_sub_one_eq_mod]
      omega
    rw [e1]
    omega
  have hy : bits BinOp.and IntKind.u16 (y : Int) 255 = (y : Int) % 256 := by
    rw [show (255 : Int) = ((255 : Nat) : Int) from rfl, u16_and_nat y 255 (by omega) (by decide), show (255 : Nat) = 2 ^ 8 - 1 from rfl, Nat.and_two_pow_sub_one_eq_mod]
    omega
  rw [hx, hy, word_or _ _ (by omega) (by omega) (by omega) (by omega)]
  rfl
theorem page_ok (b e : Int) (h0 : 0 ≤ b) (h1 : b < 65536) : 0 ≤ pageOf b e ∧ pageOf b e < 65536 := by unfold pageOf; omega
theorem word_ok {m : Ms} (h : Byt m.ram) (a b : Int) : 0 ≤ m.word a b ∧ m.word a b < 65536 := by
  have h1 := Ms.look_ok h a
  have h2 := Ms.look_ok h b
  unfold Ms.word
  omega
theorem u16_ok (x : Int) : 0 ≤ u16 x ∧ u16 x < 65536 := by unfold u16; omega
theorem u8_ok (x : Int) : 0 ≤ u8 x ∧ u8 x < 256 := by unfold u8; omega
theorem target_ok (a b : Int) : 0 ≤ targetF a b ∧ targetF a b < 65536 := by unfold targetF; omega
theorem pack_ok (f : Fl) (b : Bool) : 0 ≤ packF f b ∧ packF f b < 256 := by
  obtain ⟨n, v, d, i, z, c⟩ := f
  revert n v d i z c b
  decide +kernel
theorem wrap_u16 (n : Int) : IntKind.u16.wrap n = u16 n := IntKind.wrap_u16 n
theorem wrap_u8 (n : Int) : IntKind.u8.wrap n = u8 n := IntKind.wrap_u8' n
end Go.Proofs.YtemahcjglmhefaaGreatDoor
namespace Go.Proofs.YtemahcjglmhefaaGreatDoor
set_option linter.unusedVariables false
set_option linter.unusedSimpArgs false

def placeMode (m : Int) : Bool := m == 3 || m == 4 || m == 5 || m == 6 || m == 7 || m == 8 || m == 10 || m == 11
def okOp (r : List UInt8 × Int) : Bool :=
  let k := kindF r
  (k == 0 && r.1 == []) || k == 1 || (k == 2 && (r.2 == 2 || placeMode r.2)) || (k == 3 && placeMode r.2 && (r.1 == [83, 84, 65] || r.1 == [83, 84, 88] || r.1 == [83, 84, 89])) || (k == 4 && placeMode r.2) || k == 5 || k == 6 || k == 7 || k == 8 || k == 9 || k == 10 || k == 11 || k == 12
theorem opTab : ∀ k : Fin 256, okOp (opF (k.val : Int)) = true := by decide +kernel
theorem placeMode_iff (m : Int) : placeMode m = true ↔ (m = 3 ∨ m = 4 ∨ m = 5 ∨ m = 6 ∨ m = 7 ∨ m = 8 ∨ m = 10 ∨ m = 11) := by
  unfold placeMode
  simp [or_assoc]
theorem op_cases (code : Int) (h0 : 0 ≤ code) (h1 : code < 256) (hne : (opF code).1 ≠ []) :
    kindF (opF code) = 1 ∨ (kindF (opF code) = 2 ∧ ((opF code).2 = 2 ∨ placeMode (opF code).2 = true)) ∨ (kindF (opF code) = 3 ∧ placeMode (opF code).2 = true ∧ ((opF code).1 = [83, 84, 65] ∨ (opF code).1 = [83, 84, 88] ∨ (opF code).1 = [83, 84, 89])) ∨
    (kindF (opF code) = 4 ∧ placeMode (opF code).2 = true) ∨ kindF (opF code) = 11 ∨ kindF (opF code) = 12 ∨
    (kindF (opF code) = 5 ∨ kindF (opF code) = 6 ∨ kindF (opF code) = 7 ∨ kindF (opF code) = 8 ∨ kindF (opF code) = 9 ∨ kindF (opF code) = 10) := by
  obtain ⟨m, rfl⟩ := Int.eq_ofNat_of_zero_le h0
  have h := opTab ⟨m, by omega⟩
  simp only [okOp, Bool.or_eq_true, Bool.and_eq_true, beq_iff_eq] at h
  generalize opF (m : Int) = r at *
  rcases h with (((((((((((h | h) | h) | h) | h) | h) | h) | h) | h) | h) | h) | h) | h
  · exact absurd h.2 hne
  · exact .inl h
  · exact .inr (.inl h)
  · exact .inr (.inr (.inl ⟨h.1.1, h.1.2, by rcases h.2 with (h | h) | h <;> simp [h]⟩))
  · exact .inr (.inr (.inr (.inl h)))
  all_goals simp [h]
theorem size_ok (m : Int) : 0 ≤ sizeF m ∧ sizeF m ≤ 3 := by
  unfold sizeF
  repeat' split
  all_goals omega
end Go.Proofs.YtemahcjglmhefaaGreatDoor
namespace Go.Proofs.YtemahcjglmhefaaGreatDoor
set_option linter.unusedVariables false
set_option linter.unusedSimpArgs false

theorem placeEnd_len (kind b e : Int) (m : Ms) : (placeEnd kind b e m).2.cy.length ≤ m.cy.length + 1 := by
  unfold placeEnd
  split <;> simp [Ms.read]
theorem place_len (mode kind : Int) (m : Ms) : (placeF mode kind m).2.cy.length ≤ m.cy.length + 4 := by
  have h : ∀ k b e (q : Ms), q.cy.length ≤ m.cy.length + 3 → (placeEnd k b e q).2.cy.length ≤ m.cy.length + 4 := fun k b e q hq => Nat.le_trans (placeEnd_len k b e q) (by omega)
  unfold placeF
  repeat' split
  all_goals first | (apply h; simp [Ms.read, Ms.read2]; done) | (simp [Ms.read, Ms.read2]; done)
theorem placeEnd_cpu (kind b e : Int) (m : Ms) : (placeEnd kind b e m).2.c = m.c ∧ (placeEnd kind b e m).2.ram = m.ram := by
  unfold placeEnd
  split <;> exact ⟨rfl, rfl⟩
theorem place_same (mode kind : Int) (m : Ms) : (placeF mode kind m).2.c = m.c ∧ (placeF mode kind m).2.ram = m.ram := by
  unfold placeF
  repeat' split
  all_goals first | exact ⟨rfl, rfl⟩ | exact placeEnd_cpu _ _ _ _
theorem place_cpu (mode kind : Int) (m : Ms) : (placeF mode kind m).2.c = m.c := (place_same mode kind m).1
theorem placeEnd_ok (kind b e : Int) (m : Ms) (he : 0 ≤ e ∧ e < 65536) : 0 ≤ (placeEnd kind b e m).1 ∧ (placeEnd kind b e m).1 < 65536 := by
  unfold placeEnd
  split <;> exact he
theorem lt16 {x : Int} (h : 0 ≤ x ∧ x < 256) : 0 ≤ x ∧ x < 65536 := by omega
theorem place_ok {m : Ms} (hb : Byt m.ram) (hc : m.c.ok) (mode kind : Int) (_hm : mode = 3 ∨ mode = 4 ∨ mode = 5 ∨ mode = 6 ∨ mode = 7 ∨ mode = 8 ∨ mode = 10 ∨ mode = 11) : 0 ≤ (placeF mode kind m).1 ∧ (placeF mode kind m).1 < 65536 := by
  unfold placeF
  repeat' split
  all_goals first | exact lt16 (Ms.look_ok hb _) | exact lt16 (u8_ok _) | exact word_ok hb _ _ | exact placeEnd_ok _ _ _ _ (u16_ok _)
end Go.Proofs.YtemahcjglmhefaaGreatDoor
