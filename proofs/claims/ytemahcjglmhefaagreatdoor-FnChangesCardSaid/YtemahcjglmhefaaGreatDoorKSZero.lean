/- The reference's table of operations, side Zero. No condition. -/
import Derived.Test.YtemahcjglmhefaaGreatDoorKOp
import Derived.Handy
namespace Go.Proofs.YtemahcjglmhefaaGreatDoor
set_option linter.unusedVariables false
set_option linter.unusedSimpArgs false
open Go.RowKit

def sZeroT : List (List UInt8 × Int) := [([66, 82, 75], 0), ([], 3), ([80, 72, 80], 0), ([], 6), ([66, 80, 76], 12), ([], 0), ([67, 76, 67], 0), ([], 0), ([74, 83, 82], 6), ([66, 73, 84], 3), ([80, 76, 80], 0), ([66, 73, 84], 6), ([66, 77, 73], 12), ([], 0), ([83, 69, 67], 0), ([], 0), ([82, 84, 73], 0), ([], 3), ([80, 72, 65], 0), ([74, 77, 80], 6), ([66, 86, 67], 12), ([], 0), ([67, 76, 73], 0), ([], 0), ([82, 84, 83], 0), ([], 3), ([80, 76, 65], 0), ([74, 77, 80], 9), ([66, 86, 83], 12), ([], 0), ([83, 69, 73], 0), ([], 0), ([], 0), ([83, 84, 89], 3), ([68, 69, 89], 0), ([83, 84, 89], 6), ([66, 67, 67], 12), ([83, 84, 89], 4), ([84, 89, 65], 0), ([], 0), ([76, 68, 89], 2), ([76, 68, 89], 3), ([84, 65, 89], 0), ([76, 68, 89], 6), ([66, 67, 83], 12), ([76, 68, 89], 4), ([67, 76, 86], 0), ([76, 68, 89], 7), ([67, 80, 89], 2), ([67, 80, 89], 3), ([73, 78, 89], 0), ([67, 80, 89], 6), ([66, 78, 69], 12), ([], 0), ([67, 76, 68], 0), ([], 0), ([67, 80, 88], 2), ([67, 80, 88], 3), ([73, 78, 88], 0), ([67, 80, 88], 6), ([66, 69, 81], 12), ([], 0), ([83, 69, 68], 0), ([], 0)]
def sZero (row part : Int) : List UInt8 × Int := sZeroT.getD (row * 8 + part).toNat ([], 0)
set_option maxHeartbeats 1000000 in
theorem sZero_0 (part : Int) (hp : 0 ≤ part ∧ part < 8) (w : World) :
    Calls Tryz.prog 85 #[.int .i64 0, .int .i64 part] w fun e w' => e = .returned (.agg #[.string ⟨(sZero 0 part).1.toArray⟩, .int .i64 (sZero 0 part).2]) ∧ Below w.heap.size w w' := by
  obtain h | h | h | h | h | h | h | h : part = 0 ∨ part = 1 ∨ part = 2 ∨ part = 3 ∨ part = 4 ∨ part = 5 ∨ part = 6 ∨ part = 7 := by omega
  · subst h
    go_enter Tryz.func85, Tryz.ntmps85
    go_wp2
    try (go_region; go_wp2)
    refine bodyPost_ret (v := .agg #[.string ⟨#[66, 82, 75]⟩, .int .i64 0]) (by simp [results, Tryz.results85, go_sem]) rfl ⟨rfl, by go_grown⟩
  · subst h
    go_enter Tryz.func85, Tryz.ntmps85
    go_wp2
    try (go_region; go_wp2)
    refine bodyPost_ret (v := .agg #[.string ⟨#[]⟩, .int .i64 3]) (by simp [results, Tryz.results85, go_sem]) rfl ⟨rfl, by go_grown⟩
  · subst h
    go_enter Tryz.func85, Tryz.ntmps85
    go_wp2
    try (go_region; go_wp2)
    refine bodyPost_ret (v := .agg #[.string ⟨#[80, 72, 80]⟩, .int .i64 0]) (by simp [results, Tryz.results85, go_sem]) rfl ⟨rfl, by go_grown⟩
  · subst h
    go_enter Tryz.func85, Tryz.ntmps85
    go_wp2
    try (go_region; go_wp2)
    refine bodyPost_ret (v := .agg #[.string ⟨#[]⟩, .int .i64 6]) (by simp [results, Tryz.results85, go_sem]) rfl ⟨rfl, by go_grown⟩
  · subst h
    go_enter Tryz.func85, Tryz.ntmps85
    go_wp2
    try (go_region; go_wp2)
    refine bodyPost_ret (v := .agg #[.string ⟨#[66, 80, 76]⟩, .int .i64 12]) (by simp [results, Tryz.results85, go_sem]) rfl ⟨rfl, by go_grown⟩
  · subst h
    go_enter Tryz.func85, Tryz.ntmps85
    go_wp2
    try (go_region; go_wp2)
    refine bodyPost_ret (v := .agg #[.string ⟨#[]⟩, .int .i64 0]) (by simp [results, Tryz.results85, go_sem]) rfl ⟨rfl, by go_grown⟩
  · subst h
    go_enter Tryz.func85, Tryz.ntmps85
    go_wp2
    try (go_region; go_wp2)
    refine bodyPost_ret (v := .agg #[.string ⟨#[67, 76, 67]⟩, .int .i64 0]) (by simp [results, Tryz.results85, go_sem]) rfl ⟨rfl, by go_grown⟩
  · subst h
    go_enter Tryz.func85, Tryz.ntmps85
    go_wp2
    try (go_region; go_wp2)
    refine bodyPost_ret (v := .agg #[.string ⟨#[]⟩, .int .i64 0]) (by simp [results, Tryz.results85, go_sem]) rfl ⟨rfl, by go_grown⟩
set_option maxHeartbeats 1000000 in
theorem sZero_1 (part : Int) (hp : 0 ≤ part ∧ part < 8) (w : World) :
    Calls Tryz.prog 85 #[.int .i64 1, .int .i64 part] w fun e w' => e = .returned (.agg #[.string ⟨(sZero 1 part).1.toArray⟩, .int .i64 (sZero 1 part).2]) ∧ Below w.heap.size w w' := by
  obtain h | h | h | h | h | h | h | h : part = 0 ∨ part = 1 ∨ part = 2 ∨ part = 3 ∨ part = 4 ∨ part = 5 ∨ part = 6 ∨ part = 7 := by omega
  · subst h
    go_enter Tryz.func85, Tryz.ntmps85
    go_wp2
    try (go_region; go_wp2)
    refine bodyPost_ret (v := .agg #[.string ⟨#[74, 83, 82]⟩, .int .i64 6]) (by simp [results, Tryz.results85, go_sem]) rfl ⟨rfl, by go_grown⟩
  · subst h
    go_enter Tryz.func85, Tryz.ntmps85
    go_wp2
    try (go_region; go_wp2)
    refine bodyPost_ret (v := .agg #[.string ⟨#[66, 73, 84]⟩, .int .i64 3]) (by simp [results, Tryz.results85, go_sem]) rfl ⟨rfl, by go_grown⟩
  · subst h
    go_enter Tryz.func85, Tryz.ntmps85
    go_wp2
    try (go_region; go_wp2)
    refine bodyPost_ret (v := .agg #[.string ⟨#[80, 76, 80]⟩, .int .i64 0]) (by simp [results, Tryz.results85, go_sem]) rfl ⟨rfl, by go_grown⟩
  · subst h
    go_enter Tryz.func85, Tryz.ntmps85
    go_wp2
    try (go_region; go_wp2)
    refine bodyPost_ret (v := .agg #[.string ⟨#[66, 73, 84]⟩, .int .i64 6]) (by simp [results, Tryz.results85, go_sem]) rfl ⟨rfl, by go_grown⟩
  · subst h
    go_enter Tryz.func85, Tryz.ntmps85
    go_wp2
    try (go_region; go_wp2)
    refine bodyPost_ret (v := .agg #[.string ⟨#[66, 77, 73]⟩, .int .i64 12]) (by simp [results, Tryz.results85, go_sem]) rfl ⟨rfl, by go_grown⟩
  · subst h
    go_enter Tryz.func85, Tryz.ntmps85
    go_wp2
    try (go_region; go_wp2)
    refine bodyPost_ret (v := .agg #[.string ⟨#[]⟩, .int .i64 0]) (by simp [results, Tryz.results85, go_sem]) rfl ⟨rfl, by go_grown⟩
  · subst h
    go_enter Tryz.func85, Tryz.ntmps85
    go_wp2
    try (go_region; go_wp2)
    refine bodyPost_ret (v := .agg #[.string ⟨#[83, 69, 67]⟩, .int .i64 0]) (by simp [results, Tryz.results85, go_sem]) rfl ⟨rfl, by go_grown⟩
  · subst h
    go_enter Tryz.func85, Tryz.ntmps85
    go_wp2
    try (go_region; go_wp2)
    refine bodyPost_ret (v := .agg #[.string ⟨#[]⟩, .int .i64 0]) (by simp [results, Tryz.results85, go_sem]) rfl ⟨rfl, by go_grown⟩
set_option maxHeartbeats 1000000 in
theorem sZero_2 (part : Int) (hp : 0 ≤ part ∧ part < 8) (w : World) :
    Calls Tryz.prog 85 #[.int .i64 2, .int .i64 part] w fun e w' => e = .returned (.agg #[.string ⟨(sZero 2 part).1.toArray⟩, .int .i64 (sZero 2 part).2]) ∧ Below w.heap.size w w' := by
  obtain h | h | h | h | h | h | h | h : part = 0 ∨ part = 1 ∨ part = 2 ∨ part = 3 ∨ part = 4 ∨ part = 5 ∨ part = 6 ∨ part = 7 := by omega
  · subst h
    go_enter Tryz.func85, Tryz.ntmps85
    go_wp2
    try (go_region; go_wp2)
    refine bodyPost_ret (v := .agg #[.string ⟨#[82, 84, 73]⟩, .int .i64 0]) (by simp [results, Tryz.results85, go_sem]) rfl ⟨rfl, by go_grown⟩
  · subst h
    go_enter Tryz.func85, Tryz.ntmps85
    go_wp2
    try (go_region; go_wp2)
    refine bodyPost_ret (v := .agg #[.string ⟨#[]⟩, .int .i64 3]) (by simp [results, Tryz.results85, go_sem]) rfl ⟨rfl, by go_grown⟩
  · subst h
    go_enter Tryz.func85, Tryz.ntmps85
    go_wp2
    try (go_region; go_wp2)
    refine bodyPost_ret (v := .agg #[.string ⟨#[80, 72, 65]⟩, .int .i64 0]) (by simp [results, Tryz.results85, go_sem]) rfl ⟨rfl, by go_grown⟩
  · subst h
    go_enter Tryz.func85, Tryz.ntmps85
    go_wp2
    try (go_region; go_wp2)
    refine bodyPost_ret (v := .agg #[.string ⟨#[74, 77, 80]⟩, .int .i64 6]) (by simp [results, Tryz.results85, go_sem]) rfl ⟨rfl, by go_grown⟩
  · subst h
    go_enter Tryz.func85, Tryz.ntmps85
    go_wp2
    try (go_region; go_wp2)
    refine bodyPost_ret (v := .agg #[.string ⟨#[66, 86, 67]⟩, .int .i64 12]) (by simp [results, Tryz.results85, go_sem]) rfl ⟨rfl, by go_grown⟩
  · subst h
    go_enter Tryz.func85, Tryz.ntmps85
    go_wp2
    try (go_region; go_wp2)
    refine bodyPost_ret (v := .agg #[.string ⟨#[]⟩, .int .i64 0]) (by simp [results, Tryz.results85, go_sem]) rfl ⟨rfl, by go_grown⟩
  · subst h
    go_enter Tryz.func85, Tryz.ntmps85
    go_wp2
    try (go_region; go_wp2)
    refine bodyPost_ret (v := .agg #[.string ⟨#[67, 76, 73]⟩, .int .i64 0]) (by simp [results, Tryz.results85, go_sem]) rfl ⟨rfl, by go_grown⟩
  · subst h
    go_enter Tryz.func85, Tryz.ntmps85
    go_wp2
    try (go_region; go_wp2)
    refine bodyPost_ret (v := .agg #[.string ⟨#[]⟩, .int .i64 0]) (by simp [results, Tryz.results85, go_sem]) rfl ⟨rfl, by go_grown⟩
set_option maxHeartbeats 1000000 in
theorem sZero_3 (part : Int) (hp : 0 ≤ part ∧ part < 8) (w : World) :
    Calls Tryz.prog 85 #[.int .i64 3, .int .i64 part] w fun e w' => e = .returned (.agg #[.string ⟨(sZero 3 part).1.toArray⟩, .int .i64 (sZero 3 part).2]) ∧ Below w.heap.size w w' := by
  obtain h | h | h | h | h | h | h | h : part = 0 ∨ part = 1 ∨ part = 2 ∨ part = 3 ∨ part = 4 ∨ part = 5 ∨ part = 6 ∨ part = 7 := by omega
  · subst h
    go_enter Tryz.func85, Tryz.ntmps85
    go_wp2
    try (go_region; go_wp2)
    refine bodyPost_ret (v := .agg #[.string ⟨#[82, 84, 83]⟩, .int .i64 0]) (by simp [results, Tryz.results85, go_sem]) rfl ⟨rfl, by go_grown⟩
  · subst h
    go_enter Tryz.func85, Tryz.ntmps85
    go_wp2
    try (go_region; go_wp2)
    refine bodyPost_ret (v := .agg #[.string ⟨#[]⟩, .int .i64 3]) (by simp [results, Tryz.results85, go_sem]) rfl ⟨rfl, by go_grown⟩
  · subst h
    go_enter Tryz.func85, Tryz.ntmps85
    go_wp2
    try (go_region; go_wp2)
    refine bodyPost_ret (v := .agg #[.string ⟨#[80, 76, 65]⟩, .int .i64 0]) (by simp [results, Tryz.results85, go_sem]) rfl ⟨rfl, by go_grown⟩
  · subst h
    go_enter Tryz.func85, Tryz.ntmps85
    go_wp2
    try (go_region; go_wp2)
    refine bodyPost_ret (v := .agg #[.string ⟨#[74, 77, 80]⟩, .int .i64 9]) (by simp [results, Tryz.results85, go_sem]) rfl ⟨rfl, by go_grown⟩
  · subst h
    go_enter Tryz.func85, Tryz.ntmps85
    go_wp2
    try (go_region; go_wp2)
    refine bodyPost_ret (v := .agg #[.string ⟨#[66, 86, 83]⟩, .int .i64 12]) (by simp [results, Tryz.results85, go_sem]) rfl ⟨rfl, by go_grown⟩
  · subst h
    go_enter Tryz.func85, Tryz.ntmps85
    go_wp2
    try (go_region; go_wp2)
    refine bodyPost_ret (v := .agg #[.string ⟨#[]⟩, .int .i64 0]) (by simp [results, Tryz.results85, go_sem]) rfl ⟨rfl, by go_grown⟩
  · subst h
    go_enter Tryz.func85, Tryz.ntmps85
    go_wp2
    try (go_region; go_wp2)
    refine bodyPost_ret (v := .agg #[.string ⟨#[83, 69, 73]⟩, .int .i64 0]) (by simp [results, Tryz.results85, go_sem]) rfl ⟨rfl, by go_grown⟩
  · subst h
    go_enter Tryz.func85, Tryz.ntmps85
    go_wp2
    try (go_region; go_wp2)
    refine bodyPost_ret (v := .agg #[.string ⟨#[]⟩, .int .i64 0]) (by simp [results, Tryz.results85, go_sem]) rfl ⟨rfl, by go_grown⟩
set_option maxHeartbeats 1000000 in
theorem sZero_4 (part : Int) (hp : 0 ≤ part ∧ part < 8) (w : World) :
    Calls Tryz.prog 85 #[.int .i64 4, .int .i64 part] w fun e w' => e = .returned (.agg #[.string ⟨(sZero 4 part).1.toArray⟩, .int .i64 (sZero 4 part).2]) ∧ Below w.heap.size w w' := by
  obtain h | h | h | h | h | h | h | h : part = 0 ∨ part = 1 ∨ part = 2 ∨ part = 3 ∨ part = 4 ∨ part = 5 ∨ part = 6 ∨ part = 7 := by omega
  · subst h
    go_enter Tryz.func85, Tryz.ntmps85
    go_wp2
    try (go_region; go_wp2)
    refine bodyPost_ret (v := .agg #[.string ⟨#[]⟩, .int .i64 0]) (by simp [results, Tryz.results85, go_sem]) rfl ⟨rfl, by go_grown⟩
  · subst h
    go_enter Tryz.func85, Tryz.ntmps85
    go_wp2
    try (go_region; go_wp2)
    refine bodyPost_ret (v := .agg #[.string ⟨#[83, 84, 89]⟩, .int .i64 3]) (by simp [results, Tryz.results85, go_sem]) rfl ⟨rfl, by go_grown⟩
  · subst h
    go_enter Tryz.func85, Tryz.ntmps85
    go_wp2
    try (go_region; go_wp2)
    refine bodyPost_ret (v := .agg #[.string ⟨#[68, 69, 89]⟩, .int .i64 0]) (by simp [results, Tryz.results85, go_sem]) rfl ⟨rfl, by go_grown⟩
  · subst h
    go_enter Tryz.func85, Tryz.ntmps85
    go_wp2
    try (go_region; go_wp2)
    refine bodyPost_ret (v := .agg #[.string ⟨#[83, 84, 89]⟩, .int .i64 6]) (by simp [results, Tryz.results85, go_sem]) rfl ⟨rfl, by go_grown⟩
  · subst h
    go_enter Tryz.func85, Tryz.ntmps85
    go_wp2
    try (go_region; go_wp2)
    refine bodyPost_ret (v := .agg #[.string ⟨#[66, 67, 67]⟩, .int .i64 12]) (by simp [results, Tryz.results85, go_sem]) rfl ⟨rfl, by go_grown⟩
  · subst h
    go_enter Tryz.func85, Tryz.ntmps85
    go_wp2
    try (go_region; go_wp2)
    refine bodyPost_ret (v := .agg #[.string ⟨#[83, 84, 89]⟩, .int .i64 4]) (by simp [results, Tryz.results85, go_sem]) rfl ⟨rfl, by go_grown⟩
  · subst h
    go_enter Tryz.func85, Tryz.ntmps85
    go_wp2
    try (go_region; go_wp2)
    refine bodyPost_ret (v := .agg #[.string ⟨#[84, 89, 65]⟩, .int .i64 0]) (by simp [results, Tryz.results85, go_sem]) rfl ⟨rfl, by go_grown⟩
  · subst h
    go_enter Tryz.func85, Tryz.ntmps85
    go_wp2
    try (go_region; go_wp2)
    refine bodyPost_ret (v := .agg #[.string ⟨#[]⟩, .int .i64 0]) (by simp [results, Tryz.results85, go_sem]) rfl ⟨rfl, by go_grown⟩
set_option maxHeartbeats 1000000 in
theorem sZero_5 (part : Int) (hp : 0 ≤ part ∧ part < 8) (w : World) :
    Calls Tryz.prog 85 #[.int .i64 5, .int .i64 part] w fun e w' => e = .returned (.agg #[.string ⟨(sZero 5 part).1.toArray⟩, .int .i64 (sZero 5 part).2]) ∧ Below w.heap.size w w' := by
  obtain h | h | h | h | h | h | h | h : part = 0 ∨ part = 1 ∨ part = 2 ∨ part = 3 ∨ part = 4 ∨ part = 5 ∨ part = 6 ∨ part = 7 := by omega
  · subst h
    go_enter Tryz.func85, Tryz.ntmps85
    go_wp2
    try (go_region; go_wp2)
    refine bodyPost_ret (v := .agg #[.string ⟨#[76, 68, 89]⟩, .int .i64 2]) (by simp [results, Tryz.results85, go_sem]) rfl ⟨rfl, by go_grown⟩
  · subst h
    go_enter Tryz.func85, Tryz.ntmps85
    go_wp2
    try (go_region; go_wp2)
    refine bodyPost_ret (v := .agg #[.string ⟨#[76, 68, 89]⟩, .int .i64 3]) (by simp [results, Tryz.results85, go_sem]) rfl ⟨rfl, by go_grown⟩
  · subst h
    go_enter Tryz.func85, Tryz.ntmps85
    go_wp2
    try (go_region; go_wp2)
    refine bodyPost_ret (v := .agg #[.string ⟨#[84, 65, 89]⟩, .int .i64 0]) (by simp [results, Tryz.results85, go_sem]) rfl ⟨rfl, by go_grown⟩
  · subst h
    go_enter Tryz.func85, Tryz.ntmps85
    go_wp2
    try (go_region; go_wp2)
    refine bodyPost_ret (v := .agg #[.string ⟨#[76, 68, 89]⟩, .int .i64 6]) (by simp [results, Tryz.results85, go_sem]) rfl ⟨rfl, by go_grown⟩
  · subst h
    go_enter Tryz.func85, Tryz.ntmps85
    go_wp2
    try (go_region; go_wp2)
    refine bodyPost_ret (v := .agg #[.string ⟨#[66, 67, 83]⟩, .int .i64 12]) (by simp [results, Tryz.results85, go_sem]) rfl ⟨rfl, by go_grown⟩
  · subst h
    go_enter Tryz.func85, Tryz.ntmps85
    go_wp2
    try (go_region; go_wp2)
    refine bodyPost_ret (v := .agg #[.string ⟨#[76, 68, 89]⟩, .int .i64 4]) (by simp [results, Tryz.results85, go_sem]) rfl ⟨rfl, by go_grown⟩
  · subst h
    go_enter Tryz.func85, Tryz.ntmps85
    go_wp2
    try (go_region; go_wp2)
    refine bodyPost_ret (v := .agg #[.string ⟨#[67, 76, 86]⟩, .int .i64 0]) (by simp [results, Tryz.results85, go_sem]) rfl ⟨rfl, by go_grown⟩
  · subst h
    go_enter Tryz.func85, Tryz.ntmps85
    go_wp2
    try (go_region; go_wp2)
    refine bodyPost_ret (v := .agg #[.string ⟨#[76, 68, 89]⟩, .int .i64 7]) (by simp [results, Tryz.results85, go_sem]) rfl ⟨rfl, by go_grown⟩
set_option maxHeartbeats 1000000 in
theorem sZero_6 (part : Int) (hp : 0 ≤ part ∧ part < 8) (w : World) :
    Calls Tryz.prog 85 #[.int .i64 6, .int .i64 part] w fun e w' => e = .returned (.agg #[.string ⟨(sZero 6 part).1.toArray⟩, .int .i64 (sZero 6 part).2]) ∧ Below w.heap.size w w' := by
  obtain h | h | h | h | h | h | h | h : part = 0 ∨ part = 1 ∨ part = 2 ∨ part = 3 ∨ part = 4 ∨ part = 5 ∨ part = 6 ∨ part = 7 := by omega
  · subst h
    go_enter Tryz.func85, Tryz.ntmps85
    go_wp2
    try (go_region; go_wp2)
    refine bodyPost_ret (v := .agg #[.string ⟨#[67, 80, 89]⟩, .int .i64 2]) (by simp [results, Tryz.results85, go_sem]) rfl ⟨rfl, by go_grown⟩
  · subst h
    go_enter Tryz.func85, Tryz.ntmps85
    go_wp2
    try (go_region; go_wp2)
    refine bodyPost_ret (v := .agg #[.string ⟨#[67, 80, 89]⟩, .int .i64 3]) (by simp [results, Tryz.results85, go_sem]) rfl ⟨rfl, by go_grown⟩
  · subst h
    go_enter Tryz.func85, Tryz.ntmps85
    go_wp2
    try (go_region; go_wp2)
    refine bodyPost_ret (v := .agg #[.string ⟨#[73, 78, 89]⟩, .int .i64 0]) (by simp [results, Tryz.results85, go_sem]) rfl ⟨rfl, by go_grown⟩
  · subst h
    go_enter Tryz.func85, Tryz.ntmps85
    go_wp2
    try (go_region; go_wp2)
    refine bodyPost_ret (v := .agg #[.string ⟨#[67, 80, 89]⟩, .int .i64 6]) (by simp [results, Tryz.results85, go_sem]) rfl ⟨rfl, by go_grown⟩
  · subst h
    go_enter Tryz.func85, Tryz.ntmps85
    go_wp2
    try (go_region; go_wp2)
    refine bodyPost_ret (v := .agg #[.string ⟨#[66, 78, 69]⟩, .int .i64 12]) (by simp [results, Tryz.results85, go_sem]) rfl ⟨rfl, by go_grown⟩
  · subst h
    go_enter Tryz.func85, Tryz.ntmps85
    go_wp2
    try (go_region; go_wp2)
    refine bodyPost_ret (v := .agg #[.string ⟨#[]⟩, .int .i64 0]) (by simp [results, Tryz.results85, go_sem]) rfl ⟨rfl, by go_grown⟩
  · subst h
    go_enter Tryz.func85, Tryz.ntmps85
    go_wp2
    try (go_region; go_wp2)
    refine bodyPost_ret (v := .agg #[.string ⟨#[67, 76, 68]⟩, .int .i64 0]) (by simp [results, Tryz.results85, go_sem]) rfl ⟨rfl, by go_grown⟩
  · subst h
    go_enter Tryz.func85, Tryz.ntmps85
    go_wp2
    try (go_region; go_wp2)
    refine bodyPost_ret (v := .agg #[.string ⟨#[]⟩, .int .i64 0]) (by simp [results, Tryz.results85, go_sem]) rfl ⟨rfl, by go_grown⟩
set_option maxHeartbeats 1000000 in
theorem sZero_7 (part : Int) (hp : 0 ≤ part ∧ part < 8) (w : World) :
    Calls Tryz.prog 85 #[.int .i64 7, .int .i64 part] w fun e w' => e = .returned (.agg #[.string ⟨(sZero 7 part).1.toArray⟩, .int .i64 (sZero 7 part).2]) ∧ Below w.heap.size w w' := by
  obtain h | h | h | h | h | h | h | h : part = 0 ∨ part = 1 ∨ part = 2 ∨ part = 3 ∨ part = 4 ∨ part = 5 ∨ part = 6 ∨ part = 7 := by omega
  · subst h
    go_enter Tryz.func85, Tryz.ntmps85
    go_wp2
    try (go_region; go_wp2)
    refine bodyPost_ret (v := .agg #[.string ⟨#[67, 80, 88]⟩, .int .i64 2]) (by simp [results, Tryz.results85, go_sem]) rfl ⟨rfl, by go_grown⟩
  · subst h
    go_enter Tryz.func85, Tryz.ntmps85
    go_wp2
    try (go_region; go_wp2)
    refine bodyPost_ret (v := .agg #[.string ⟨#[67, 80, 88]⟩, .int .i64 3]) (by simp [results, Tryz.results85, go_sem]) rfl ⟨rfl, by go_grown⟩
  · subst h
    go_enter Tryz.func85, Tryz.ntmps85
    go_wp2
    try (go_region; go_wp2)
    refine bodyPost_ret (v := .agg #[.string ⟨#[73, 78, 88]⟩, .int .i64 0]) (by simp [results, Tryz.results85, go_sem]) rfl ⟨rfl, by go_grown⟩
  · subst h
    go_enter Tryz.func85, Tryz.ntmps85
    go_wp2
    try (go_region; go_wp2)
    refine bodyPost_ret (v := .agg #[.string ⟨#[67, 80, 88]⟩, .int .i64 6]) (by simp [results, Tryz.results85, go_sem]) rfl ⟨rfl, by go_grown⟩
  · subst h
    go_enter Tryz.func85, Tryz.ntmps85
    go_wp2
    try (go_region; go_wp2)
    refine bodyPost_ret (v := .agg #[.string ⟨#[66, 69, 81]⟩, .int .i64 12]) (by simp [results, Tryz.results85, go_sem]) rfl ⟨rfl, by go_grown⟩
  · subst h
    go_enter Tryz.func85, Tryz.ntmps85
    go_wp2
    try (go_region; go_wp2)
    refine bodyPost_ret (v := .agg #[.string ⟨#[]⟩, .int .i64 0]) (by simp [results, Tryz.results85, go_sem]) rfl ⟨rfl, by go_grown⟩
  · subst h
    go_enter Tryz.func85, Tryz.ntmps85
    go_wp2
    try (go_region; go_wp2)
    refine bodyPost_ret (v := .agg #[.string ⟨#[83, 69, 68]⟩, .int .i64 0]) (by simp [results, Tryz.results85, go_sem]) rfl ⟨rfl, by go_grown⟩
  · subst h
    go_enter Tryz.func85, Tryz.ntmps85
    go_wp2
    try (go_region; go_wp2)
    refine bodyPost_ret (v := .agg #[.string ⟨#[]⟩, .int .i64 0]) (by simp [results, Tryz.results85, go_sem]) rfl ⟨rfl, by go_grown⟩
theorem sZero_c (row part : Int) (hr : 0 ≤ row ∧ row < 8) (hp : 0 ≤ part ∧ part < 8) (w : World) :
    Calls Tryz.prog 85 #[.int .i64 row, .int .i64 part] w fun e w' => e = .returned (.agg #[.string ⟨(sZero row part).1.toArray⟩, .int .i64 (sZero row part).2]) ∧ Below w.heap.size w w' := by
  obtain h | h | h | h | h | h | h | h : row = 0 ∨ row = 1 ∨ row = 2 ∨ row = 3 ∨ row = 4 ∨ row = 5 ∨ row = 6 ∨ row = 7 := by omega
  · subst h; exact sZero_0 part hp w
  · subst h; exact sZero_1 part hp w
  · subst h; exact sZero_2 part hp w
  · subst h; exact sZero_3 part hp w
  · subst h; exact sZero_4 part hp w
  · subst h; exact sZero_5 part hp w
  · subst h; exact sZero_6 part hp w
  · subst h; exact sZero_7 part hp w
end Go.Proofs.YtemahcjglmhefaaGreatDoor
