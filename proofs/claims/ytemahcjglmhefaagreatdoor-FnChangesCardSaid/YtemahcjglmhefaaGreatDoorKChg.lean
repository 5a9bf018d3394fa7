/- What an operation changes, by its letters. No condition. -/
import Derived.Test.YtemahcjglmhefaaGreatDoorKSOf
namespace Go.Proofs.YtemahcjglmhefaaGreatDoor
set_option linter.unusedVariables false
set_option linter.unusedSimpArgs false
open Go.RowKit
def chgT : List (List UInt8 × List UInt8) := [([76, 68, 65], [65, 78, 90]), ([79, 82, 65], [65, 78, 90]), ([65, 78, 68], [65, 78, 90]), ([69, 79, 82], [65, 78, 90]), ([80, 76, 65], [65, 83, 78, 90]), ([76, 68, 88], [88, 78, 90]), ([73, 78, 88], [88, 78, 90]), ([68, 69, 88], [88, 78, 90]), ([84, 65, 88], [88, 78, 90]), ([84, 83, 88], [88, 78, 90]), ([76, 68, 89], [89, 78, 90]), ([73, 78, 89], [89, 78, 90]), ([68, 69, 89], [89, 78, 90]), ([84, 65, 89], [89, 78, 90]), ([84, 88, 65], [65, 78, 90]), ([84, 89, 65], [65, 78, 90]), ([65, 68, 67], [65, 78, 86, 90, 67]), ([83, 66, 67], [65, 78, 86, 90, 67]), ([67, 77, 80], [78, 90, 67]), ([67, 80, 88], [78, 90, 67]), ([67, 80, 89], [78, 90, 67]), ([66, 73, 84], [78, 86, 90]), ([73, 78, 67], [78, 90]), ([68, 69, 67], [78, 90]), ([84, 88, 83], [83]), ([74, 83, 82], [83]), ([82, 84, 83], [83]), ([80, 72, 65], [83]), ([80, 72, 80], [83]), ([66, 82, 75], [83, 73]), ([67, 76, 67], [67]), ([83, 69, 67], [67]), ([67, 76, 73], [73]), ([83, 69, 73], [73]), ([67, 76, 68], [68]), ([83, 69, 68], [68]), ([67, 76, 86], [86]), ([80, 76, 80], [83, 78, 86, 68, 73, 90, 67]), ([82, 84, 73], [83, 78, 86, 68, 73, 90, 67])]
def chgF (l : List UInt8) (m : Int) : List UInt8 := if l = [65, 83, 76] ∨ l = [76, 83, 82] ∨ l = [82, 79, 76] ∨ l = [82, 79, 82] then (if m = 1 then [65, 78, 90, 67] else [78, 90, 67]) else ((chgT.find? fun p => p.1 == l).map (·.2)).getD []
def chgNames : List (List UInt8) := [[76, 68, 65], [79, 82, 65], [65, 78, 68], [69, 79, 82], [80, 76, 65], [76, 68, 88], [73, 78, 88], [68, 69, 88], [84, 65, 88], [84, 83, 88], [76, 68, 89], [73, 78, 89], [68, 69, 89], [84, 65, 89], [84, 88, 65], [84, 89, 65], [65, 68, 67], [83, 66, 67], [67, 77, 80], [67, 80, 88], [67, 80, 89], [66, 73, 84], [73, 78, 67], [68, 69, 67], [84, 88, 83], [74, 83, 82], [82, 84, 83], [80, 72, 65], [80, 72, 80], [66, 82, 75], [67, 76, 67], [83, 69, 67], [67, 76, 73], [83, 69, 73], [67, 76, 68], [83, 69, 68], [67, 76, 86], [80, 76, 80], [82, 84, 73], [66, 80, 76], [66, 77, 73], [66, 86, 67], [66, 86, 83], [66, 67, 67], [66, 67, 83], [66, 78, 69], [66, 69, 81], [83, 84, 65], [83, 84, 88], [83, 84, 89], [74, 77, 80], [78, 79, 80]]
theorem chg_names : ∀ k : Fin 256, (opF (k.val : Int)).1 ∈ chgNames ∨ (opF (k.val : Int)).1 ∈ [[65, 83, 76], [76, 83, 82], [82, 79, 76], [82, 79, 82]] ∨ (opF (k.val : Int)).1 = [] := by decide +kernel
set_option maxHeartbeats 8000000 in
set_option maxRecDepth 100000 in
theorem changed_0 (l : List UInt8) (m : Int) (h : l ∈ [[76, 68, 65], [79, 82, 65], [65, 78, 68], [69, 79, 82], [80, 76, 65], [76, 68, 88], [73, 78, 88], [68, 69, 88], [84, 65, 88]]) (w : World) : Calls Tryz.prog 31 #[.string ⟨l.toArray⟩, .int .i64 m] w fun e w' => e = .returned (.string ⟨(chgF l m).toArray⟩) ∧ w = w' := by
  simp only [List.mem_cons, List.not_mem_nil, or_false] at h
  rcases h with rfl | rfl | rfl | rfl | rfl | rfl | rfl | rfl | rfl
  all_goals
    go_enter Tryz.func31, Tryz.ntmps31
    go_wp2
    go_returns
    exact ⟨rfl, rfl⟩
set_option maxHeartbeats 8000000 in
set_option maxRecDepth 100000 in
theorem changed_1 (l : List UInt8) (m : Int) (h : l ∈ [[84, 83, 88], [76, 68, 89], [73, 78, 89], [68, 69, 89], [84, 65, 89], [84, 88, 65], [84, 89, 65], [65, 68, 67], [83, 66, 67]]) (w : World) : Calls Tryz.prog 31 #[.string ⟨l.toArray⟩, .int .i64 m] w fun e w' => e = .returned (.string ⟨(chgF l m).toArray⟩) ∧ w = w' := by
  simp only [List.mem_cons, List.not_mem_nil, or_false] at h
  rcases h with rfl | rfl | rfl | rfl | rfl | rfl | rfl | rfl | rfl
  all_goals
    go_enter Tryz.func31, Tryz.ntmps31
    go_wp2
    go_returns
    exact ⟨rfl, rfl⟩
set_option maxHeartbeats 8000000 in
set_option maxRecDepth 100000 in
theorem changed_2 (l : List UInt8) (m : Int) (h : l ∈ [[67, 77, 80], [67, 80, 88], [67, 80, 89], [66, 73, 84], [73, 78, 67], [68, 69, 67], [84, 88, 83], [74, 83, 82], [82, 84, 83]]) (w : World) : Calls Tryz.prog 31 #[.string ⟨l.toArray⟩, .int .i64 m] w fun e w' => e = .returned (.string ⟨(chgF l m).toArray⟩) ∧ w = w' := by
  simp only [List.mem_cons, List.not_mem_nil, or_false] at h
  rcases h with rfl | rfl | rfl | rfl | rfl | rfl | rfl | rfl | rfl
  all_goals
    go_enter Tryz.func31, Tryz.ntmps31
    go_wp2
    go_returns
    exact ⟨rfl, rfl⟩
set_option maxHeartbeats 8000000 in
set_option maxRecDepth 100000 in
theorem changed_3 (l : List UInt8) (m : Int) (h : l ∈ [[80, 72, 65], [80, 72, 80], [66, 82, 75], [67, 76, 67], [83, 69, 67], [67, 76, 73], [83, 69, 73], [67, 76, 68], [83, 69, 68]]) (w : World) : Calls Tryz.prog 31 #[.string ⟨l.toArray⟩, .int .i64 m] w fun e w' => e = .returned (.string ⟨(chgF l m).toArray⟩) ∧ w = w' := by
  simp only [List.mem_cons, List.not_mem_nil, or_false] at h
  rcases h with rfl | rfl | rfl | rfl | rfl | rfl | rfl | rfl | rfl
  all_goals
    go_enter Tryz.func31, Tryz.ntmps31
    go_wp2
    go_returns
    exact ⟨rfl, rfl⟩
set_option maxHeartbeats 8000000 in
set_option maxRecDepth 100000 in
theorem changed_4 (l : List UInt8) (m : Int) (h : l ∈ [[67, 76, 86], [80, 76, 80], [82, 84, 73], [66, 80, 76], [66, 77, 73], [66, 86, 67], [66, 86, 83], [66, 67, 67], [66, 67, 83]]) (w : World) : Calls Tryz.prog 31 #[.string ⟨l.toArray⟩, .int .i64 m] w fun e w' => e = .returned (.string ⟨(chgF l m).toArray⟩) ∧ w = w' := by
  simp only [List.mem_cons, List.not_mem_nil, or_false] at h
  rcases h with rfl | rfl | rfl | rfl | rfl | rfl | rfl | rfl | rfl
  all_goals
    go_enter Tryz.func31, Tryz.ntmps31
    go_wp2
    go_returns
    exact ⟨rfl, rfl⟩
set_option maxHeartbeats 8000000 in
set_option maxRecDepth 100000 in
theorem changed_5 (l : List UInt8) (m : Int) (h : l ∈ [[66, 78, 69], [66, 69, 81], [83, 84, 65], [83, 84, 88], [83, 84, 89], [74, 77, 80], [78, 79, 80]]) (w : World) : Calls Tryz.prog 31 #[.string ⟨l.toArray⟩, .int .i64 m] w fun e w' => e = .returned (.string ⟨(chgF l m).toArray⟩) ∧ w = w' := by
  simp only [List.mem_cons, List.not_mem_nil, or_false] at h
  rcases h with rfl | rfl | rfl | rfl | rfl | rfl | rfl
  all_goals
    go_enter Tryz.func31, Tryz.ntmps31
    go_wp2
    go_returns
    exact ⟨rfl, rfl⟩
set_option maxHeartbeats 8000000 in
set_option maxRecDepth 100000 in
theorem changed_sh (l : List UInt8) (m : Int) (h : l ∈ [[65, 83, 76], [76, 83, 82], [82, 79, 76], [82, 79, 82]]) (w : World) : Calls Tryz.prog 31 #[.string ⟨l.toArray⟩, .int .i64 m] w fun e w' => e = .returned (.string ⟨(chgF l m).toArray⟩) ∧ w = w' := by
  have h1 : chgF l m = if m = 1 then [65, 78, 90, 67] else [78, 90, 67] := by simp at h; simp [chgF, h]
  rw [h1]
  clear h1
  simp only [List.mem_cons, List.not_mem_nil, or_false] at h
  rcases h with rfl | rfl | rfl | rfl
  all_goals
    by_cases hm : m = 1
    · have hd : (m == 1) = true := by simpa using hm
      rw [if_pos hm]
      clear hm
      go_enter Tryz.func31, Tryz.ntmps31
      go_wp2
      go_returns
      exact ⟨rfl, rfl⟩
    · have hd : (m == 1) = false := by simpa using hm
      rw [if_neg hm]
      clear hm
      go_enter Tryz.func31, Tryz.ntmps31
      go_wp2
      go_returns
      exact ⟨rfl, rfl⟩
theorem changed_no (m : Int) (w : World) : Calls Tryz.prog 31 #[.string ⟨#[]⟩, .int .i64 m] w fun e w' => e = .returned (.string ⟨(chgF [] m).toArray⟩) ∧ w = w' := by
  go_enter Tryz.func31, Tryz.ntmps31
  go_wp2
  go_returns
  exact ⟨rfl, rfl⟩
theorem changed_c (code : Int) (h0 : 0 ≤ code) (h1 : code < 256) (w : World) : Calls Tryz.prog 31 #[.string ⟨(opF code).1.toArray⟩, .int .i64 (opF code).2] w fun e w' => e = .returned (.string ⟨(chgF (opF code).1 (opF code).2).toArray⟩) ∧ w = w' := by
  obtain ⟨k, rfl⟩ := Int.eq_ofNat_of_zero_le h0
  have h := chg_names ⟨k, by omega⟩
  simp only at h
  generalize opF (k : Int) = r at *
  obtain ⟨l, m⟩ := r
  simp only at h ⊢
  rcases h with h | h | h
  · have hs : l ∈ [[76, 68, 65], [79, 82, 65], [65, 78, 68], [69, 79, 82], [80, 76, 65], [76, 68, 88], [73, 78, 88], [68, 69, 88], [84, 65, 88]] ∨ l ∈ [[84, 83, 88], [76, 68, 89], [73, 78, 89], [68, 69, 89], [84, 65, 89], [84, 88, 65], [84, 89, 65], [65, 68, 67], [83, 66, 67]] ∨ l ∈ [[67, 77, 80], [67, 80, 88], [67, 80, 89], [66, 73, 84], [73, 78, 67], [68, 69, 67], [84, 88, 83], [74, 83, 82], [82, 84, 83]] ∨ l ∈ [[80, 72, 65], [80, 72, 80], [66, 82, 75], [67, 76, 67], [83, 69, 67], [67, 76, 73], [83, 69, 73], [67, 76, 68], [83, 69, 68]] ∨ l ∈ [[67, 76, 86], [80, 76, 80], [82, 84, 73], [66, 80, 76], [66, 77, 73], [66, 86, 67], [66, 86, 83], [66, 67, 67], [66, 67, 83]] ∨ l ∈ [[66, 78, 69], [66, 69, 81], [83, 84, 65], [83, 84, 88], [83, 84, 89], [74, 77, 80], [78, 79, 80]] := by
      simp only [chgNames, List.mem_cons, List.not_mem_nil, or_false] at h ⊢
      simpa [or_assoc] using h
    rcases hs with h | h | h | h | h | h
    · exact changed_0 l m h w
    · exact changed_1 l m h w
    · exact changed_2 l m h w
    · exact changed_3 l m h w
    · exact changed_4 l m h w
    · exact changed_5 l m h w
  · exact changed_sh l m h w
  · subst h; exact changed_no m w
end Go.Proofs.YtemahcjglmhefaaGreatDoor
