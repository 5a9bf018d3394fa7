/- What an operation changes: the program's function, the reference's. No condition. -/
import Derived.Test.YtemahcjglmhefaaGreatDoorKChg
namespace Go.Proofs.YtemahcjglmhefaaGreatDoor
set_option linter.unusedVariables false
set_option linter.unusedSimpArgs false
open Go.RowKit
def changesF (code : Int) : List UInt8 := chgF (opF code).1 (opF code).2
set_option maxHeartbeats 1000000 in
theorem Changes_c (code : Int) (h0 : 0 ≤ code) (h1 : code < 256) (w : World) (hG : Gl w) : Calls Tryz.prog 14 #[.int .u8 code] w fun e w' => e = .returned (.string ⟨(changesF code).toArray⟩) ∧ Below w.heap.size w w' := by
  go_enter Tryz.func14, Tryz.ntmps14
  go_wp2_with fail
  refine (operation_c code h0 h1 _ hG).mono ?_
  rintro e w1 ⟨rfl, hb1⟩
  have hc := changed_c code h0 h1 w1
  obtain ⟨q, hq⟩ : ∃ q, q = chgF (opF code).1 (opF code).2 := ⟨_, rfl⟩
  rw [← hq] at hc
  have HQ := Lib.hid hq
  clear hq
  generalize opF code = r at hc ⊢
  go_wp2_with fail
  refine hc.mono ?_
  rintro e w2 ⟨rfl, rfl⟩
  go_wp2
  go_returns
  exact ⟨by unfold changesF; rw [← HQ.out]; rfl, hb1⟩
set_option maxHeartbeats 8000000 in
set_option maxRecDepth 100000 in
theorem sChanges_0 (code : Int) (h0 : 0 ≤ code) (h1 : code < 256) (h : (opF code).1 ∈ [[76, 68, 65], [79, 82, 65], [65, 78, 68], [69, 79, 82], [80, 76, 65], [76, 68, 88], [73, 78, 88], [68, 69, 88], [84, 65, 88]]) (w : World) : Calls Tryz.prog 15 #[.int .u8 code] w fun e w' => e = .returned (.string ⟨(changesF code).toArray⟩) ∧ Below w.heap.size w w' := by
  simp only [List.mem_cons, List.not_mem_nil, or_false] at h
  rcases h with h | h | h | h | h | h | h | h | h
  all_goals
    have HL := Lib.hid h
    clear h
    go_enter Tryz.func15, Tryz.ntmps15
    go_wp2_with fail
    refine (sNameOf_c code h0 h1 _).mono ?_
    rintro e w1 ⟨rfl, hb1⟩
    rw [HL.out]
    go_wp2
    go_returns
    exact ⟨by unfold changesF; rw [HL.out]; rfl, hb1⟩
set_option maxHeartbeats 8000000 in
set_option maxRecDepth 100000 in
theorem sChanges_1 (code : Int) (h0 : 0 ≤ code) (h1 : code < 256) (h : (opF code).1 ∈ [[84, 83, 88], [76, 68, 89], [73, 78, 89], [68, 69, 89], [84, 65, 89], [84, 88, 65], [84, 89, 65], [65, 68, 67], [83, 66, 67]]) (w : World) : Calls Tryz.prog 15 #[.int .u8 code] w fun e w' => e = .returned (.string ⟨(changesF code).toArray⟩) ∧ Below w.heap.size w w' := by
  simp only [List.mem_cons, List.not_mem_nil, or_false] at h
  rcases h with h | h | h | h | h | h | h | h | h
  all_goals
    have HL := Lib.hid h
    clear h
    go_enter Tryz.func15, Tryz.ntmps15
    go_wp2_with fail
    refine (sNameOf_c code h0 h1 _).mono ?_
    rintro e w1 ⟨rfl, hb1⟩
    rw [HL.out]
    go_wp2
    go_returns
    exact ⟨by unfold changesF; rw [HL.out]; rfl, hb1⟩
set_option maxHeartbeats 8000000 in
set_option maxRecDepth 100000 in
theorem sChanges_2 (code : Int) (h0 : 0 ≤ code) (h1 : code < 256) (h : (opF code).1 ∈ [[67, 77, 80], [67, 80, 88], [67, 80, 89], [66, 73, 84], [73, 78, 67], [68, 69, 67], [84, 88, 83], [74, 83, 82], [82, 84, 83]]) (w : World) : Calls Tryz.prog 15 #[.int .u8 code] w fun e w' => e = .returned (.string ⟨(changesF code).toArray⟩) ∧ Below w.heap.size w w' := by
  simp only [List.mem_cons, List.not_mem_nil, or_false] at h
  rcases h with h | h | h | h | h | h | h | h | h
  all_goals
    have HL := Lib.hid h
    clear h
    go_enter Tryz.func15, Tryz.ntmps15
    go_wp2_with fail
    refine (sNameOf_c code h0 h1 _).mono ?_
    rintro e w1 ⟨rfl, hb1⟩
    rw [HL.out]
    go_wp2
    go_returns
    exact ⟨by unfold changesF; rw [HL.out]; rfl, hb1⟩
set_option maxHeartbeats 8000000 in
set_option maxRecDepth 100000 in
theorem sChanges_3 (code : Int) (h0 : 0 ≤ code) (h1 : code < 256) (h : (opF code).1 ∈ [[80, 72, 65], [80, 72, 80], [66, 82, 75], [67, 76, 67], [83, 69, 67], [67, 76, 73], [83, 69, 73], [67, 76, 68], [83, 69, 68]]) (w : World) : Calls Tryz.prog 15 #[.int .u8 code] w fun e w' => e = .returned (.string ⟨(changesF code).toArray⟩) ∧ Below w.heap.size w w' := by
  simp only [List.mem_cons, List.not_mem_nil, or_false] at h
  rcases h with h | h | h | h | h | h | h | h | h
  all_goals
    have HL := Lib.hid h
    clear h
    go_enter Tryz.func15, Tryz.ntmps15
    go_wp2_with fail
    refine (sNameOf_c code h0 h1 _).mono ?_
    rintro e w1 ⟨rfl, hb1⟩
    rw [HL.out]
    go_wp2
    go_returns
    exact ⟨by unfold changesF; rw [HL.out]; rfl, hb1⟩
set_option maxHeartbeats 8000000 in
set_option maxRecDepth 100000 in
theorem sChanges_4 (code : Int) (h0 : 0 ≤ code) (h1 : code < 256) (h : (opF code).1 ∈ [[67, 76, 86], [80, 76, 80], [82, 84, 73], [66, 80, 76], [66, 77, 73], [66, 86, 67], [66, 86, 83], [66, 67, 67], [66, 67, 83]]) (w : World) : Calls Tryz.prog 15 #[.int .u8 code] w fun e w' => e = .returned (.string ⟨(changesF code).toArray⟩) ∧ Below w.heap.size w w' := by
  simp only [List.mem_cons, List.not_mem_nil, or_false] at h
  rcases h with h | h | h | h | h | h | h | h | h
  all_goals
    have HL := Lib.hid h
    clear h
    go_enter Tryz.func15, Tryz.ntmps15
    go_wp2_with fail
    refine (sNameOf_c code h0 h1 _).mono ?_
    rintro e w1 ⟨rfl, hb1⟩
    rw [HL.out]
    go_wp2
    go_returns
    exact ⟨by unfold changesF; rw [HL.out]; rfl, hb1⟩
set_option maxHeartbeats 8000000 in
set_option maxRecDepth 100000 in
theorem sChanges_5 (code : Int) (h0 : 0 ≤ code) (h1 : code < 256) (h : (opF code).1 ∈ [[66, 78, 69], [66, 69, 81], [83, 84, 65], [83, 84, 88], [83, 84, 89], [74, 77, 80], [78, 79, 80]]) (w : World) : Calls Tryz.prog 15 #[.int .u8 code] w fun e w' => e = .returned (.string ⟨(changesF code).toArray⟩) ∧ Below w.heap.size w w' := by
  simp only [List.mem_cons, List.not_mem_nil, or_false] at h
  rcases h with h | h | h | h | h | h | h
  all_goals
    have HL := Lib.hid h
    clear h
    go_enter Tryz.func15, Tryz.ntmps15
    go_wp2_with fail
    refine (sNameOf_c code h0 h1 _).mono ?_
    rintro e w1 ⟨rfl, hb1⟩
    rw [HL.out]
    go_wp2
    go_returns
    exact ⟨by unfold changesF; rw [HL.out]; rfl, hb1⟩
set_option maxHeartbeats 8000000 in
set_option maxRecDepth 100000 in
theorem sChanges_sh (code : Int) (h0 : 0 ≤ code) (h1 : code < 256) (h : (opF code).1 ∈ [[65, 83, 76], [76, 83, 82], [82, 79, 76], [82, 79, 82]]) (w : World) : Calls Tryz.prog 15 #[.int .u8 code] w fun e w' => e = .returned (.string ⟨(changesF code).toArray⟩) ∧ Below w.heap.size w w' := by
  have hq : changesF code = if (opF code).2 = 1 then [65, 78, 90, 67] else [78, 90, 67] := by simp at h; simp [changesF, chgF, h]
  have HC := Lib.hid hq
  clear hq
  simp only [List.mem_cons, List.not_mem_nil, or_false] at h
  rcases h with h | h | h | h
  all_goals
    have HL := Lib.hid h
    clear h
    go_enter Tryz.func15, Tryz.ntmps15
    go_wp2_with fail
    refine (sNameOf_c code h0 h1 _).mono ?_
    rintro e w1 ⟨rfl, hb1⟩
    rw [HL.out]
    go_wp2_with fail
    refine (sModeOf_c code h0 h1 _).mono ?_
    rintro e w2 ⟨rfl, hb2⟩
    obtain ⟨m, hq⟩ : ∃ m, (opF code).2 = m := ⟨_, rfl⟩
    rw [hq]
    have HQ := Lib.hid hq
    clear hq
    by_cases hm : m = 1
    · have hd : (m == 1) = true := by simpa using hm
      have HM := Lib.hid hm
      clear hm
      go_wp2
      go_returns
      exact ⟨by rw [HC.out, HQ.out, if_pos HM.out]; rfl, hb1.trans (hb2.mono hb1.size)⟩
    · have hd : (m == 1) = false := by simpa using hm
      have HM := Lib.hid hm
      clear hm
      go_wp2
      go_returns
      exact ⟨by rw [HC.out, HQ.out, if_neg HM.out]; rfl, hb1.trans (hb2.mono hb1.size)⟩
theorem sChanges_no (code : Int) (h0 : 0 ≤ code) (h1 : code < 256) (h : (opF code).1 = []) (w : World) : Calls Tryz.prog 15 #[.int .u8 code] w fun e w' => e = .returned (.string ⟨(changesF code).toArray⟩) ∧ Below w.heap.size w w' := by
  have HL := Lib.hid h
  clear h
  go_enter Tryz.func15, Tryz.ntmps15
  go_wp2_with fail
  refine (sNameOf_c code h0 h1 _).mono ?_
  rintro e w1 ⟨rfl, hb1⟩
  rw [HL.out]
  go_wp2
  go_returns
  exact ⟨by unfold changesF; rw [HL.out]; rfl, hb1⟩
theorem sChanges_c (code : Int) (h0 : 0 ≤ code) (h1 : code < 256) (w : World) : Calls Tryz.prog 15 #[.int .u8 code] w fun e w' => e = .returned (.string ⟨(changesF code).toArray⟩) ∧ Below w.heap.size w w' := by
  obtain ⟨k, rfl⟩ := Int.eq_ofNat_of_zero_le h0
  have h := chg_names ⟨k, by omega⟩
  simp only at h
  rcases h with h | h | h
  · have hs : (opF (k : Int)).1 ∈ [[76, 68, 65], [79, 82, 65], [65, 78, 68], [69, 79, 82], [80, 76, 65], [76, 68, 88], [73, 78, 88], [68, 69, 88], [84, 65, 88]] ∨ (opF (k : Int)).1 ∈ [[84, 83, 88], [76, 68, 89], [73, 78, 89], [68, 69, 89], [84, 65, 89], [84, 88, 65], [84, 89, 65], [65, 68, 67], [83, 66, 67]] ∨ (opF (k : Int)).1 ∈ [[67, 77, 80], [67, 80, 88], [67, 80, 89], [66, 73, 84], [73, 78, 67], [68, 69, 67], [84, 88, 83], [74, 83, 82], [82, 84, 83]] ∨ (opF (k : Int)).1 ∈ [[80, 72, 65], [80, 72, 80], [66, 82, 75], [67, 76, 67], [83, 69, 67], [67, 76, 73], [83, 69, 73], [67, 76, 68], [83, 69, 68]] ∨ (opF (k : Int)).1 ∈ [[67, 76, 86], [80, 76, 80], [82, 84, 73], [66, 80, 76], [66, 77, 73], [66, 86, 67], [66, 86, 83], [66, 67, 67], [66, 67, 83]] ∨ (opF (k : Int)).1 ∈ [[66, 78, 69], [66, 69, 81], [83, 84, 65], [83, 84, 88], [83, 84, 89], [74, 77, 80], [78, 79, 80]] := by
      simp only [chgNames, List.mem_cons, List.not_mem_nil, or_false] at h ⊢
      simpa [or_assoc] using h
    rcases hs with h | h | h | h | h | h
    · exact sChanges_0 k h0 h1 h w
    · exact sChanges_1 k h0 h1 h w
    · exact sChanges_2 k h0 h1 h w
    · exact sChanges_3 k h0 h1 h w
    · exact sChanges_4 k h0 h1 h w
    · exact sChanges_5 k h0 h1 h w
  · exact sChanges_sh k h0 h1 h w
  · exact sChanges_no k h0 h1 h w
end Go.Proofs.YtemahcjglmhefaaGreatDoor
