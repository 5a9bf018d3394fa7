/- The table of operations: what a byte is, by its row, part and side. No condition. -/
import Derived.Test.YtemahcjglmhefaaDoorGlob
import Derived.Handy
namespace Go.Proofs.YtemahcjglmhefaaDoor
open Go.RowKit

def wordF (s : List UInt8) (n : Int) : List UInt8 := if (Lib.fields s).getD n.toNat [] == [46] then [] else (Lib.fields s).getD n.toNat []
theorem word_c (s : ByteArray) (n : Int) (hs : s.size < 1000) (hascii : s.data.toList.all (fun b => decide (b.toNat < 128)) = true) (hn : 0 ≤ n ∧ n < ((Lib.fields s.data.toList).length : Int)) (w : World) (hG : Gl w) :
    Calls Tryd.prog 59 #[.string s, .int .i64 n] w fun e w' => e = .returned (.string ⟨(wordF s.data.toList n).toArray⟩) ∧ Below w.heap.size w w' := by
  have ha : ∀ (j : Nat) b, s.data.toList[j]? = some b → b.toNat < 128 := fun j b hb => by
    exact of_decide_eq_true (List.all_eq_true.1 hascii b (List.mem_of_getElem? hb))
  have hw : ∀ l : List UInt8, l = (Lib.fields s.data.toList).getD n.toNat [] → wordF s.data.toList n = if l == [46] then [] else l := fun l hl => by rw [hl]; rfl
  have HW := Lib.hid hw
  clear hw
  have htab := hG.tab
  have hc := Tryd.strings_Fields_laid s w (by omega) ha htab
  generalize Lib.fields s.data.toList = L at *
  obtain ⟨n, rfl⟩ := Int.eq_ofNat_of_zero_le hn.1
  have hn1 : n < L.length := by omega
  have hL : L[n]? = some (L.getD n []) := by simp [List.getD_eq_getElem?_getD, hn1]
  have hcell : (w.alloc (.cells (L.map fun l => Value.string ⟨l.toArray⟩).toArray 9)).cell? ⟨w.heap.size, n, none⟩ = some (.string ⟨(L.getD n []).toArray⟩) := by
    rw [cell_of_row _ _ _ _ _ _ (heap_alloc_new w _)]
    rw [List.getElem?_toArray, List.getElem?_map, hL]
    rfl
  obtain ⟨l, hl⟩ : ∃ l, l = L.getD n [] := ⟨_, rfl⟩
  have HL := Lib.hid hl
  rw [← hl] at hcell
  have i1 : (n : Int) < (L.length : Int) := by omega
  clear hG htab ha hL hl hascii hs
  go_enter Tryd.func59, Tryd.ntmps59
  go_wp2_with (go_at_call 75; refine hc.mono ?_; rintro e w1 ⟨rfl, rfl⟩)
  all_goals
    go_ret
    refine ⟨?_, Dn.al w _⟩
    have hq := HW.out l (by rw [HL.out]; rfl)
    rename_i hb
    rw [hq]
    simp only [Bool.not_eq_eq_eq_not, Bool.not_true, Bool.not_false] at hb
    simp [hb]
def zN0 (row : Int) : List UInt8 × Int := (wordF [66, 82, 75, 32, 74, 83, 82, 32, 82, 84, 73, 32, 82, 84, 83, 32, 46, 32, 76, 68, 89, 32, 67, 80, 89, 32, 67, 80, 88] row, if row = 1 then 6 else if row < 4 then 0 else 2)
def szF (row part : Int) : List UInt8 × Int :=
  if part = 0 then zN0 row else if part = 1 then (wordF [46, 32, 66, 73, 84, 32, 46, 32, 46, 32, 83, 84, 89, 32, 76, 68, 89, 32, 67, 80, 89, 32, 67, 80, 88] row, 3) else if part = 2 then (wordF [80, 72, 80, 32, 80, 76, 80, 32, 80, 72, 65, 32, 80, 76, 65, 32, 68, 69, 89, 32, 84, 65, 89, 32, 73, 78, 89, 32, 73, 78, 88] row, 0)
  else if part = 3 then (if row = 3 then ([74, 77, 80], 9) else (wordF [46, 32, 66, 73, 84, 32, 74, 77, 80, 32, 46, 32, 83, 84, 89, 32, 76, 68, 89, 32, 67, 80, 89, 32, 67, 80, 88] row, 6)) else if part = 4 then (wordF [66, 80, 76, 32, 66, 77, 73, 32, 66, 86, 67, 32, 66, 86, 83, 32, 66, 67, 67, 32, 66, 67, 83, 32, 66, 78, 69, 32, 66, 69, 81] row, 12)
  else if part = 5 then (wordF [46, 32, 46, 32, 46, 32, 46, 32, 83, 84, 89, 32, 76, 68, 89, 32, 46, 32, 46] row, 4) else if part = 6 then (wordF [67, 76, 67, 32, 83, 69, 67, 32, 67, 76, 73, 32, 83, 69, 73, 32, 84, 89, 65, 32, 67, 76, 86, 32, 67, 76, 68, 32, 83, 69, 68] row, 0) else (wordF [46, 32, 46, 32, 46, 32, 46, 32, 46, 32, 76, 68, 89, 32, 46, 32, 46] row, 7)
theorem word8_c (s : ByteArray) (n : Int) (hs : s.size < 1000) (hascii : s.data.toList.all (fun b => decide (b.toNat < 128)) = true) (h8 : (Lib.fields s.data.toList).length = 8) (hn : 0 ≤ n ∧ n < 8) (w : World) (hG : Gl w) :
    Calls Tryd.prog 59 #[.string s, .int .i64 n] w fun e w' => e = .returned (.string ⟨(wordF s.data.toList n).toArray⟩) ∧ Below w.heap.size w w' :=
  word_c s n hs hascii (by omega) w hG
set_option maxHeartbeats 1000000 in
theorem sideZero_c (row part : Int) (hr : 0 ≤ row ∧ row < 8) (hp : 0 ≤ part ∧ part < 8) (w : World) (hG : Gl w) :
    Calls Tryd.prog 58 #[.int .i64 row, .int .i64 part] w fun e w' => e = .returned (.tuple #[.string ⟨(szF row part).1.toArray⟩, .int .i64 (szF row part).2]) ∧ Below w.heap.size w w' := by
  go_enter Tryd.func58, Tryd.ntmps58
  go_wp2_with (go_at_call 59; refine (word8_c _ _ (by decide) (by decide +kernel) (by decide +kernel) hr _ hG).mono ?_; rintro e w1 ⟨rfl, hb1⟩)
  all_goals go_returns
  all_goals try simp only [beq_iff_eq, beq_eq_false_iff_ne, ne_eq] at *
  all_goals first | exact ⟨by simp [szF, zN0, *], hb1⟩ | exact ⟨by simp [szF, zN0, *], Below.refl _ _⟩
def twoN (row : Int) : List UInt8 := wordF [65, 83, 76, 32, 82, 79, 76, 32, 76, 83, 82, 32, 82, 79, 82, 32, 83, 84, 88, 32, 76, 68, 88, 32, 68, 69, 67, 32, 73, 78, 67] row
def stF (row part : Int) : List UInt8 × Int :=
  let byX := !(twoN row == [83, 84, 88]) && !(twoN row == [76, 68, 88])
  if part = 0 then (wordF [46, 32, 46, 32, 46, 32, 46, 32, 46, 32, 76, 68, 88, 32, 46, 32, 46] row, 2) else if part = 1 then (twoN row, 3)
  else if part = 2 then (if row < 4 then (twoN row, 1) else (wordF [46, 32, 46, 32, 46, 32, 46, 32, 84, 88, 65, 32, 84, 65, 88, 32, 68, 69, 88, 32, 78, 79, 80] row, 0))
  else if part = 3 then (twoN row, 6) else if part = 5 then (if byX = true then (twoN row, 4) else (twoN row, 5))
  else if part = 6 then (wordF [46, 32, 46, 32, 46, 32, 46, 32, 84, 88, 83, 32, 84, 83, 88, 32, 46, 32, 46] row, 0)
  else if part = 7 then (if byX = true then (twoN row, 7) else (wordF [46, 32, 46, 32, 46, 32, 46, 32, 46, 32, 76, 68, 88, 32, 46, 32, 46] row, 8)) else ([], -1)
set_option maxHeartbeats 1000000 in
theorem sideTwo_c (row part : Int) (hr : 0 ≤ row ∧ row < 8) (hp : 0 ≤ part ∧ part < 8) (w : World) (hG : Gl w) :
    Calls Tryd.prog 60 #[.int .i64 row, .int .i64 part] w fun e w' => e = .returned (.tuple #[.string ⟨(stF row part).1.toArray⟩, .int .i64 (stF row part).2]) ∧ Below w.heap.size w w' := by
  have HT : Hid (twoN row = wordF [65, 83, 76, 32, 82, 79, 76, 32, 76, 83, 82, 32, 82, 79, 82, 32, 83, 84, 88, 32, 76, 68, 88, 32, 68, 69, 67, 32, 73, 78, 67] row) := rfl
  go_enter Tryd.func60, Tryd.ntmps60
  go_wp2_with fail
  refine (word8_c _ _ (by decide) (by decide +kernel) (by decide +kernel) hr _ hG).mono ?_
  rintro e w1 ⟨rfl, hb1⟩
  simp only []
  rw [← HT.out]
  have hG1 := hG.later hb1
  clear hG
  generalize hq : twoN row = q at *
  have HQ := Lib.hid hq
  clear hq
  go_wp2_with (go_at_call 59; refine (word8_c _ _ (by decide) (by decide +kernel) (by decide +kernel) hr _ hG1).mono ?_; rintro e w2 ⟨rfl, hb2⟩)
  all_goals go_returns
  all_goals have hq := HQ.out
  all_goals try simp only [beq_iff_eq, beq_eq_false_iff_ne, ne_eq] at *
  all_goals refine ⟨?_, by first | exact hb1.trans (hb2.mono hb1.size) | exact hb1⟩
  all_goals first | (simp [stF, *]; done) | (simp_all [stF]; done) | (have hn : ¬ row < 4 := (by omega); simp [stF, hn, *]; done)
def oneN (row : Int) : List UInt8 := wordF [79, 82, 65, 32, 65, 78, 68, 32, 69, 79, 82, 32, 65, 68, 67, 32, 83, 84, 65, 32, 76, 68, 65, 32, 67, 77, 80, 32, 83, 66, 67] row
def oneM (part : Int) : Int := rd [10, 3, 2, 6, 11, 4, 8, 7] part
def opRaw (code : Int) : List UInt8 × Int :=
  if code % 4 = 0 then szF (code / 32) (code / 4 % 8)
  else if code % 4 = 1 then ((if oneN (code / 32) == [83, 84, 65] && oneM (code / 4 % 8) == 2 then [] else oneN (code / 32)), oneM (code / 4 % 8))
  else if code % 4 = 2 then stF (code / 32) (code / 4 % 8) else ([], -1)
def opF (code : Int) : List UInt8 × Int := if (opRaw code).1 == [] then ([], -1) else opRaw code
theorem and7_eq (b : Int) (h0 : 0 ≤ b) (h1 : b < 256) : bits BinOp.and IntKind.u8 (b / 4) 7 = b / 4 % 8 := by
  have : ∀ k : Fin 256, bits BinOp.and IntKind.u8 ((k.val : Int) / 4) 7 = (k.val : Int) / 4 % 8 := by decide +kernel
  obtain ⟨m, rfl⟩ := Int.eq_ofNat_of_zero_le h0
  exact this ⟨m, by omega⟩
theorem and3_eq (b : Int) (h0 : 0 ≤ b) (h1 : b < 256) : bits BinOp.and IntKind.u8 b 3 = b % 4 := by
  have : ∀ k : Fin 256, bits BinOp.and IntKind.u8 (k.val : Int) 3 = (k.val : Int) % 4 := by decide +kernel
  obtain ⟨m, rfl⟩ := Int.eq_ofNat_of_zero_le h0
  exact this ⟨m, by omega⟩
set_option maxHeartbeats 1000000 in
theorem operation_c02 (code : Int) (h0 : 0 ≤ code) (h1 : code < 256) (w : World) (hG : Gl w) (hs : code % 4 ≠ 1) :
    Calls Tryd.prog 39 #[.int .u8 code] w fun e w' => e = .returned (.tuple #[.string ⟨(opF code).1.toArray⟩, .int .i64 (opF code).2]) ∧ Below w.heap.size w w' := by
  have e1 := and7_eq code h0 h1
  have e2 := and3_eq code h0 h1
  have hr : 0 ≤ code / 32 ∧ code / 32 < 8 := by omega
  have hp : 0 ≤ code / 4 % 8 ∧ code / 4 % 8 < 8 := by omega
  have hs1 : (code % 4 == 1) = false := by simpa using hs
  go_enter Tryd.func39, Tryd.ntmps39
  go_wp2_with (first | (go_at_call 58; refine (sideZero_c _ _ hr hp _ hG).mono ?_; rintro e w1 ⟨rfl, hb1⟩) | (go_at_call 60; refine (sideTwo_c _ _ hr hp _ hG).mono ?_; rintro e w1 ⟨rfl, hb1⟩))
  all_goals go_returns
  all_goals refine ⟨?_, by first | exact hb1 | exact Below.refl _ _⟩
  all_goals first | (simp [opF, opRaw, *]; done) | (simp_all [opF, opRaw]; done)
set_option maxHeartbeats 1000000 in
theorem operation_c1 (code : Int) (h0 : 0 ≤ code) (h1 : code < 256) (w : World) (hG : Gl w) (hs : code % 4 = 1) :
    Calls Tryd.prog 39 #[.int .u8 code] w fun e w' => e = .returned (.tuple #[.string ⟨(opF code).1.toArray⟩, .int .i64 (opF code).2]) ∧ Below w.heap.size w w' := by
  have e1 := and7_eq code h0 h1
  have e2 := and3_eq code h0 h1
  have hr : 0 ≤ code / 32 ∧ code / 32 < 8 := by omega
  have hp : 0 ≤ code / 4 % 8 ∧ code / 4 % 8 < 8 := by omega
  have hO : oneN (code / 32) = wordF [79, 82, 65, 32, 65, 78, 68, 32, 69, 79, 82, 32, 65, 68, 67, 32, 83, 84, 65, 32, 76, 68, 65, 32, 67, 77, 80, 32, 83, 66, 67] (code / 32) := rfl
  by_cases hq : oneN (code / 32) = [83, 84, 65]
  all_goals
    rw [hO] at hq
    obtain hh | hh | hh | hh | hh | hh | hh | hh : code / 4 % 8 = 0 ∨ code / 4 % 8 = 1 ∨ code / 4 % 8 = 2 ∨ code / 4 % 8 = 3 ∨ code / 4 % 8 = 4 ∨ code / 4 % 8 = 5 ∨ code / 4 % 8 = 6 ∨ code / 4 % 8 = 7 := by omega
    all_goals
      go_enter Tryd.func39, Tryd.ntmps39
      go_wp2_with (go_at_call 59; refine (word8_c _ _ (by decide) (by decide +kernel) (by decide +kernel) hr _ hG).mono ?_; rintro e w1 ⟨rfl, hb1⟩)
      all_goals go_returns
      all_goals refine ⟨?_, hb1.alloc hb1.size _⟩
      all_goals (simp_all [opF, opRaw, oneM, rd]; done)
theorem operation_c (code : Int) (h0 : 0 ≤ code) (h1 : code < 256) (w : World) (hG : Gl w) :
    Calls Tryd.prog 39 #[.int .u8 code] w fun e w' => e = .returned (.tuple #[.string ⟨(opF code).1.toArray⟩, .int .i64 (opF code).2]) ∧ Below w.heap.size w w' := by
  by_cases hs : code % 4 = 1
  · exact operation_c1 code h0 h1 w hG hs
  · exact operation_c02 code h0 h1 w hG hs
end Go.Proofs.YtemahcjglmhefaaDoor
