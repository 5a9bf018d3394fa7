/- The reference's table of operations, side One. No condition. -/
import Derived.Test.YtemahcjglmhefaaGreatDoorKOp
import Derived.Handy
namespace Go.Proofs.YtemahcjglmhefaaGreatDoor
set_option linter.unusedVariables false
set_option linter.unusedSimpArgs false
open Go.RowKit

def sOneT : List (List UInt8 × Int) := [([79, 82, 65], 10), ([79, 82, 65], 3), ([79, 82, 65], 2), ([79, 82, 65], 6), ([79, 82, 65], 11), ([79, 82, 65], 4), ([79, 82, 65], 8), ([79, 82, 65], 7), ([65, 78, 68], 10), ([65, 78, 68], 3), ([65, 78, 68], 2), ([65, 78, 68], 6), ([65, 78, 68], 11), ([65, 78, 68], 4), ([65, 78, 68], 8), ([65, 78, 68], 7), ([69, 79, 82], 10), ([69, 79, 82], 3), ([69, 79, 82], 2), ([69, 79, 82], 6), ([69, 79, 82], 11), ([69, 79, 82], 4), ([69, 79, 82], 8), ([69, 79, 82], 7), ([65, 68, 67], 10), ([65, 68, 67], 3), ([65, 68, 67], 2), ([65, 68, 67], 6), ([65, 68, 67], 11), ([65, 68, 67], 4), ([65, 68, 67], 8), ([65, 68, 67], 7), ([83, 84, 65], 10), ([83, 84, 65], 3), ([], 0), ([83, 84, 65], 6), ([83, 84, 65], 11), ([83, 84, 65], 4), ([83, 84, 65], 8), ([83, 84, 65], 7), ([76, 68, 65], 10), ([76, 68, 65], 3), ([76, 68, 65], 2), ([76, 68, 65], 6), ([76, 68, 65], 11), ([76, 68, 65], 4), ([76, 68, 65], 8), ([76, 68, 65], 7), ([67, 77, 80], 10), ([67, 77, 80], 3), ([67, 77, 80], 2), ([67, 77, 80], 6), ([67, 77, 80], 11), ([67, 77, 80], 4), ([67, 77, 80], 8), ([67, 77, 80], 7), ([83, 66, 67], 10), ([83, 66, 67], 3), ([83, 66, 67], 2), ([83, 66, 67], 6), ([83, 66, 67], 11), ([83, 66, 67], 4), ([83, 66, 67], 8), ([83, 66, 67], 7)]
def sOne (row part : Int) : List UInt8 × Int := sOneT.getD (row * 8 + part).toNat ([], 0)
set_option maxHeartbeats 1000000 in
theorem sOne_0 (part : Int) (hp : 0 ≤ part ∧ part < 8) (w : World) :
    Calls Tryz.prog 86 #[.int .i64 0, .int .i64 part] w fun e w' => e = .returned (.agg #[.string ⟨(sOne 0 part).1.toArray⟩, .int .i64 (sOne 0 part).2]) ∧ Below w.heap.size w w' := by
  obtain h | h | h | h | h | h | h | h : part = 0 ∨ part = 1 ∨ part = 2 ∨ part = 3 ∨ part = 4 ∨ part = 5 ∨ part = 6 ∨ part = 7 := by omega
  · subst h
    go_enter Tryz.func86, Tryz.ntmps86
    go_wp2
    try (go_region; go_wp2)
    refine bodyPost_ret (v := .agg #[.string ⟨#[79, 82, 65]⟩, .int .i64 10]) (by simp [results, Tryz.results86, go_sem]) rfl ⟨rfl, by go_grown⟩
  · subst h
    go_enter Tryz.func86, Tryz.ntmps86
    go_wp2
    try (go_region; go_wp2)
    refine bodyPost_ret (v := .agg #[.string ⟨#[79, 82, 65]⟩, .int .i64 3]) (by simp [results, Tryz.results86, go_sem]) rfl ⟨rfl, by go_grown⟩
  · subst h
    go_enter Tryz.func86, Tryz.ntmps86
    go_wp2
    try (go_region; go_wp2)
    refine bodyPost_ret (v := .agg #[.string ⟨#[79, 82, 65]⟩, .int .i64 2]) (by simp [results, Tryz.results86, go_sem]) rfl ⟨rfl, by go_grown⟩
  · subst h
    go_enter Tryz.func86, Tryz.ntmps86
    go_wp2
    try (go_region; go_wp2)
    refine bodyPost_ret (v := .agg #[.string ⟨#[79, 82, 65]⟩, .int .i64 6]) (by simp [results, Tryz.results86, go_sem]) rfl ⟨rfl, by go_grown⟩
  · subst h
    go_enter Tryz.func86, Tryz.ntmps86
    go_wp2
    try (go_region; go_wp2)
    refine bodyPost_ret (v := .agg #[.string ⟨#[79, 82, 65]⟩, .int .i64 11]) (by simp [results, Tryz.results86, go_sem]) rfl ⟨rfl, by go_grown⟩
  · subst h
    go_enter Tryz.func86, Tryz.ntmps86
    go_wp2
    try (go_region; go_wp2)
    refine bodyPost_ret (v := .agg #[.string ⟨#[79, 82, 65]⟩, .int .i64 4]) (by simp [results, Tryz.results86, go_sem]) rfl ⟨rfl, by go_grown⟩
  · subst h
    go_enter Tryz.func86, Tryz.ntmps86
    go_wp2
    try (go_region; go_wp2)
    refine bodyPost_ret (v := .agg #[.string ⟨#[79, 82, 65]⟩, .int .i64 8]) (by simp [results, Tryz.results86, go_sem]) rfl ⟨rfl, by go_grown⟩
  · subst h
    go_enter Tryz.func86, Tryz.ntmps86
    go_wp2
    try (go_region; go_wp2)
    refine bodyPost_ret (v := .agg #[.string ⟨#[79, 82, 65]⟩, .int .i64 7]) (by simp [results, Tryz.results86, go_sem]) rfl ⟨rfl, by go_grown⟩
set_option maxHeartbeats 1000000 in
theorem sOne_1 (part : Int) (hp : 0 ≤ part ∧ part < 8) (w : World) :
    Calls Tryz.prog 86 #[.int .i64 1, .int .i64 part] w fun e w' => e = .returned (.agg #[.string ⟨(sOne 1 part).1.toArray⟩, .int .i64 (sOne 1 part).2]) ∧ Below w.heap.size w w' := by
  obtain h | h | h | h | h | h | h | h : part = 0 ∨ part = 1 ∨ part = 2 ∨ part = 3 ∨ part = 4 ∨ part = 5 ∨ part = 6 ∨ part = 7 := by omega
  · subst h
    go_enter Tryz.func86, Tryz.ntmps86
    go_wp2
    try (go_region; go_wp2)
    refine bodyPost_ret (v := .agg #[.string ⟨#[65, 78, 68]⟩, .int .i64 10]) (by simp [results, Tryz.results86, go_sem]) rfl ⟨rfl, by go_grown⟩
  · subst h
    go_enter Tryz.func86, Tryz.ntmps86
    go_wp2
    try (go_region; go_wp2)
    refine bodyPost_ret (v := .agg #[.string ⟨#[65, 78, 68]⟩, .int .i64 3]) (by simp [results, Tryz.results86, go_sem]) rfl ⟨rfl, by go_grown⟩
  · subst h
    go_enter Tryz.func86, Tryz.ntmps86
    go_wp2
    try (go_region; go_wp2)
    refine bodyPost_ret (v := .agg #[.string ⟨#[65, 78, 68]⟩, .int .i64 2]) (by simp [results, Tryz.results86, go_sem]) rfl ⟨rfl, by go_grown⟩
  · subst h
    go_enter Tryz.func86, Tryz.ntmps86
    go_wp2
    try (go_region; go_wp2)
    refine bodyPost_ret (v := .agg #[.string ⟨#[65, 78, 68]⟩, .int .i64 6]) (by simp [results, Tryz.results86, go_sem]) rfl ⟨rfl, by go_grown⟩
  · subst h
    go_enter Tryz.func86, Tryz.ntmps86
    go_wp2
    try (go_region; go_wp2)
    refine bodyPost_ret (v := .agg #[.string ⟨#[65, 78, 68]⟩, .int .i64 11]) (by simp [results, Tryz.results86, go_sem]) rfl ⟨rfl, by go_grown⟩
  · subst h
    go_enter Tryz.func86, Tryz.ntmps86
    go_wp2
    try (go_region; go_wp2)
    refine bodyPost_ret (v := .agg #[.string ⟨#[65, 78, 68]⟩, .int .i64 4]) (by simp [results, Tryz.results86, go_sem]) rfl ⟨rfl, by go_grown⟩
  · subst h
    go_enter Tryz.func86, Tryz.ntmps86
    go_wp2
    try (go_region; go_wp2)
    refine bodyPost_ret (v := .agg #[.string ⟨#[65, 78, 68]⟩, .int .i64 8]) (by simp [results, Tryz.results86, go_sem]) rfl ⟨rfl, by go_grown⟩
  · subst h
    go_enter Tryz.func86, Tryz.ntmps86
    go_wp2
    try (go_region; go_wp2)
    refine bodyPost_ret (v := .agg #[.string ⟨#[65, 78, 68]⟩, .int .i64 7]) (by simp [results, Tryz.results86, go_sem]) rfl ⟨rfl, by go_grown⟩
set_option maxHeartbeats 1000000 in
theorem sOne_2 (part : Int) (hp : 0 ≤ part ∧ part < 8) (w : World) :
    Calls Tryz.prog 86 #[.int .i64 2, .int .i64 part] w fun e w' => e = .returned (.agg #[.string ⟨(sOne 2 part).1.toArray⟩, .int .i64 (sOne 2 part).2]) ∧ Below w.heap.size w w' := by
  obtain h | h | h | h | h | h | h | h : part = 0 ∨ part = 1 ∨ part = 2 ∨ part = 3 ∨ part = 4 ∨ part = 5 ∨ part = 6 ∨ part = 7 := by omega
  · subst h
    go_enter Tryz.func86, Tryz.ntmps86
    go_wp2
    try (go_region; go_wp2)
    refine bodyPost_ret (v := .agg #[.string ⟨#[69, 79, 82]⟩, .int .i64 10]) (by simp [results, Tryz.results86, go_sem]) rfl ⟨rfl, by go_grown⟩
  · subst h
    go_enter Tryz.func86, Tryz.ntmps86
    go_wp2
    try (go_region; go_wp2)
    refine bodyPost_ret (v := .agg #[.string ⟨#[69, 79, 82]⟩, .int .i64 3]) (by simp [results, Tryz.results86, go_sem]) rfl ⟨rfl, by go_grown⟩
  · subst h
    go_enter Tryz.func86, Tryz.ntmps86
    go_wp2
    try (go_region; go_wp2)
    refine bodyPost_ret (v := .agg #[.string ⟨#[69, 79, 82]⟩, .int .i64 2]) (by simp [results, Tryz.results86, go_sem]) rfl ⟨rfl, by go_grown⟩
  · subst h
    go_enter Tryz.func86, Tryz.ntmps86
    go_wp2
    try (go_region; go_wp2)
    refine bodyPost_ret (v := .agg #[.string ⟨#[69, 79, 82]⟩, .int .i64 6]) (by simp [results, Tryz.results86, go_sem]) rfl ⟨rfl, by go_grown⟩
  · subst h
    go_enter Tryz.func86, Tryz.ntmps86
    go_wp2
    try (go_region; go_wp2)
    refine bodyPost_ret (v := .agg #[.string ⟨#[69, 79, 82]⟩, .int .i64 11]) (by simp [results, Tryz.results86, go_sem]) rfl ⟨rfl, by go_grown⟩
  · subst h
    go_enter Tryz.func86, Tryz.ntmps86
    go_wp2
    try (go_region; go_wp2)
    refine bodyPost_ret (v := .agg #[.string ⟨#[69, 79, 82]⟩, .int .i64 4]) (by simp [results, Tryz.results86, go_sem]) rfl ⟨rfl, by go_grown⟩
  · subst h
    go_enter Tryz.func86, Tryz.ntmps86
    go_wp2
    try (go_region; go_wp2)
    refine bodyPost_ret (v := .agg #[.string ⟨#[69, 79, 82]⟩, .int .i64 8]) (by simp [results, Tryz.results86, go_sem]) rfl ⟨rfl, by go_grown⟩
  · subst h
    go_enter Tryz.func86, Tryz.ntmps86
    go_wp2
    try (go_region; go_wp2)
    refine bodyPost_ret (v := .agg #[.string ⟨#[69, 79, 82]⟩, .int .i64 7]) (by simp [results, Tryz.results86, go_sem]) rfl ⟨rfl, by go_grown⟩
set_option maxHeartbeats 1000000 in
theorem sOne_3 (part : Int) (hp : 0 ≤ part ∧ part < 8) (w : World) :
    Calls Tryz.prog 86 #[.int .i64 3, .int .i64 part] w fun e w' => e = .returned (.agg #[.string ⟨(sOne 3 part).1.toArray⟩, .int .i64 (sOne 3 part).2]) ∧ Below w.heap.size w w' := by
  obtain h | h | h | h | h | h | h | h : part = 0 ∨ part = 1 ∨ part = 2 ∨ part = 3 ∨ part = 4 ∨ part = 5 ∨ part = 6 ∨ part = 7 := by omega
  · subst h
    go_enter Tryz.func86, Tryz.ntmps86
    go_wp2
    try (go_region; go_wp2)
    refine bodyPost_ret (v := .agg #[.string ⟨#[65, 68, 67]⟩, .int .i64 10]) (by simp [results, Tryz.results86, go_sem]) rfl ⟨rfl, by go_grown⟩
  · subst h
    go_enter Tryz.func86, Tryz.ntmps86
    go_wp2
    try (go_region; go_wp2)
    refine bodyPost_ret (v := .agg #[.string ⟨#[65, 68, 67]⟩, .int .i64 3]) (by simp [results, Tryz.results86, go_sem]) rfl ⟨rfl, by go_grown⟩
  · subst h
    go_enter Tryz.func86, Tryz.ntmps86
    go_wp2
    try (go_region; go_wp2)
    refine bodyPost_ret (v := .agg #[.string ⟨#[65, 68, 67]⟩, .int .i64 2]) (by simp [results, Tryz.results86, go_sem]) rfl ⟨rfl, by go_grown⟩
  · subst h
    go_enter Tryz.func86, Tryz.ntmps86
    go_wp2
    try (go_region; go_wp2)
    refine bodyPost_ret (v := .agg #[.string ⟨#[65, 68, 67]⟩, .int .i64 6]) (by simp [results, Tryz.results86, go_sem]) rfl ⟨rfl, by go_grown⟩
  · subst h
    go_enter Tryz.func86, Tryz.ntmps86
    go_wp2
    try (go_region; go_wp2)
    refine bodyPost_ret (v := .agg #[.string ⟨#[65, 68, 67]⟩, .int .i64 11]) (by simp [results, Tryz.results86, go_sem]) rfl ⟨rfl, by go_grown⟩
  · subst h
    go_enter Tryz.func86, Tryz.ntmps86
    go_wp2
    try (go_region; go_wp2)
    refine bodyPost_ret (v := .agg #[.string ⟨#[65, 68, 67]⟩, .int .i64 4]) (by simp [results, Tryz.results86, go_sem]) rfl ⟨rfl, by go_grown⟩
  · subst h
    go_enter Tryz.func86, Tryz.ntmps86
    go_wp2
    try (go_region; go_wp2)
    refine bodyPost_ret (v := .agg #[.string ⟨#[65, 68, 67]⟩, .int .i64 8]) (by simp [results, Tryz.results86, go_sem]) rfl ⟨rfl, by go_grown⟩
  · subst h
    go_enter Tryz.func86, Tryz.ntmps86
    go_wp2
    try (go_region; go_wp2)
    refine bodyPost_ret (v := .agg #[.string ⟨#[65, 68, 67]⟩, .int .i64 7]) (by simp [results, Tryz.results86, go_sem]) rfl ⟨rfl, by go_grown⟩
set_option maxHeartbeats 1000000 in
theorem sOne_4 (part : Int) (hp : 0 ≤ part ∧ part < 8) (w : World) :
    Calls Tryz.prog 86 #[.int .i64 4, .int .i64 part] w fun e w' => e = .returned (.agg #[.string ⟨(sOne 4 part).1.toArray⟩, .int .i64 (sOne 4 part).2]) ∧ Below w.heap.size w w' := by
  obtain h | h | h | h | h | h | h | h : part = 0 ∨ part = 1 ∨ part = 2 ∨ part = 3 ∨ part = 4 ∨ part = 5 ∨ part = 6 ∨ part = 7 := by omega
  · subst h
    go_enter Tryz.func86, Tryz.ntmps86
    go_wp2
    try (go_region; go_wp2)
    refine bodyPost_ret (v := .agg #[.string ⟨#[83, 84, 65]⟩, .int .i64 10]) (by simp [results, Tryz.results86, go_sem]) rfl ⟨rfl, by go_grown⟩
  · subst h
    go_enter Tryz.func86, Tryz.ntmps86
    go_wp2
    try (go_region; go_wp2)
    refine bodyPost_ret (v := .agg #[.string ⟨#[83, 84, 65]⟩, .int .i64 3]) (by simp [results, Tryz.results86, go_sem]) rfl ⟨rfl, by go_grown⟩
  · subst h
    go_enter Tryz.func86, Tryz.ntmps86
    go_wp2
    try (go_region; go_wp2)
    refine bodyPost_ret (v := .agg #[.string ⟨#[]⟩, .int .i64 0]) (by simp [results, Tryz.results86, go_sem]) rfl ⟨rfl, by go_grown⟩
  · subst h
    go_enter Tryz.func86, Tryz.ntmps86
    go_wp2
    try (go_region; go_wp2)
    refine bodyPost_ret (v := .agg #[.string ⟨#[83, 84, 65]⟩, .int .i64 6]) (by simp [results, Tryz.results86, go_sem]) rfl ⟨rfl, by go_grown⟩
  · subst h
    go_enter Tryz.func86, Tryz.ntmps86
    go_wp2
    try (go_region; go_wp2)
    refine bodyPost_ret (v := .agg #[.string ⟨#[83, 84, 65]⟩, .int .i64 11]) (by simp [results, Tryz.results86, go_sem]) rfl ⟨rfl, by go_grown⟩
  · subst h
    go_enter Tryz.func86, Tryz.ntmps86
    go_wp2
    try (go_region; go_wp2)
    refine bodyPost_ret (v := .agg #[.string ⟨#[83, 84, 65]⟩, .int .i64 4]) (by simp [results, Tryz.results86, go_sem]) rfl ⟨rfl, by go_grown⟩
  · subst h
    go_enter Tryz.func86, Tryz.ntmps86
    go_wp2
    try (go_region; go_wp2)
    refine bodyPost_ret (v := .agg #[.string ⟨#[83, 84, 65]⟩, .int .i64 8]) (by simp [results, Tryz.results86, go_sem]) rfl ⟨rfl, by go_grown⟩
  · subst h
    go_enter Tryz.func86, Tryz.ntmps86
    go_wp2
    try (go_region; go_wp2)
    refine bodyPost_ret (v := .agg #[.string ⟨#[83, 84, 65]⟩, .int .i64 7]) (by simp [results, Tryz.results86, go_sem]) rfl ⟨rfl, by go_grown⟩
set_option maxHeartbeats 1000000 in
theorem sOne_5 (part : Int) (hp : 0 ≤ part ∧ part < 8) (w : World) :
    Calls Tryz.prog 86 #[.int .i64 5, .int .i64 part] w fun e w' => e = .returned (.agg #[.string ⟨(sOne 5 part).1.toArray⟩, .int .i64 (sOne 5 part).2]) ∧ Below w.heap.size w w' := by
  obtain h | h | h | h | h | h | h | h : part = 0 ∨ part = 1 ∨ part = 2 ∨ part = 3 ∨ part = 4 ∨ part = 5 ∨ part = 6 ∨ part = 7 := by omega
  · subst h
    go_enter Tryz.func86, Tryz.ntmps86
    go_wp2
    try (go_region; go_wp2)
    refine bodyPost_ret (v := .agg #[.string ⟨#[76, 68, 65]⟩, .int .i64 10]) (by simp [results, Tryz.results86, go_sem]) rfl ⟨rfl, by go_grown⟩
  · subst h
    go_enter Tryz.func86, Tryz.ntmps86
    go_wp2
    try (go_region; go_wp2)
    refine bodyPost_ret (v := .agg #[.string ⟨#[76, 68, 65]⟩, .int .i64 3]) (by simp [results, Tryz.results86, go_sem]) rfl ⟨rfl, by go_grown⟩
  · subst h
    go_enter Tryz.func86, Tryz.ntmps86
    go_wp2
    try (go_region; go_wp2)
    refine bodyPost_ret (v := .agg #[.string ⟨#[76, 68, 65]⟩, .int .i64 2]) (by simp [results, Tryz.results86, go_sem]) rfl ⟨rfl, by go_grown⟩
  · subst h
    go_enter Tryz.func86, Tryz.ntmps86
    go_wp2
    try (go_region; go_wp2)
    refine bodyPost_ret (v := .agg #[.string ⟨#[76, 68, 65]⟩, .int .i64 6]) (by simp [results, Tryz.results86, go_sem]) rfl ⟨rfl, by go_grown⟩
  · subst h
    go_enter Tryz.func86, Tryz.ntmps86
    go_wp2
    try (go_region; go_wp2)
    refine bodyPost_ret (v := .agg #[.string ⟨#[76, 68, 65]⟩, .int .i64 11]) (by simp [results, Tryz.results86, go_sem]) rfl ⟨rfl, by go_grown⟩
  · subst h
    go_enter Tryz.func86, Tryz.ntmps86
    go_wp2
    try (go_region; go_wp2)
    refine bodyPost_ret (v := .agg #[.string ⟨#[76, 68, 65]⟩, .int .i64 4]) (by simp [results, Tryz.results86, go_sem]) rfl ⟨rfl, by go_grown⟩
  · subst h
    go_enter Tryz.func86, Tryz.ntmps86
    go_wp2
    try (go_region; go_wp2)
    refine bodyPost_ret (v := .agg #[.string ⟨#[76, 68, 65]⟩, .int .i64 8]) (by simp [results, Tryz.results86, go_sem]) rfl ⟨rfl, by go_grown⟩
  · subst h
    go_enter Tryz.func86, Tryz.ntmps86
    go_wp2
    try (go_region; go_wp2)
    refine bodyPost_ret (v := .agg #[.string ⟨#[76, 68, 65]⟩, .int .i64 7]) (by simp [results, Tryz.results86, go_sem]) rfl ⟨rfl, by go_grown⟩
set_option maxHeartbeats 1000000 in
theorem sOne_6 (part : Int) (hp : 0 ≤ part ∧ part < 8) (w : World) :
    Calls Tryz.prog 86 #[.int .i64 6, .int .i64 part] w fun e w' => e = .returned (.agg #[.string ⟨(sOne 6 part).1.toArray⟩, .int .i64 (sOne 6 part).2]) ∧ Below w.heap.size w w' := by
  obtain h | h | h | h | h | h | h | h : part = 0 ∨ part = 1 ∨ part = 2 ∨ part = 3 ∨ part = 4 ∨ part = 5 ∨ part = 6 ∨ part = 7 := by omega
  · subst h
    go_enter Tryz.func86, Tryz.ntmps86
    go_wp2
    try (go_region; go_wp2)
    refine bodyPost_ret (v := .agg #[.string ⟨#[67, 77, 80]⟩, .int .i64 10]) (by simp [results, Tryz.results86, go_sem]) rfl ⟨rfl, by go_grown⟩
  · subst h
    go_enter Tryz.func86, Tryz.ntmps86
    go_wp2
    try (go_region; go_wp2)
    refine bodyPost_ret (v := .agg #[.string ⟨#[67, 77, 80]⟩, .int .i64 3]) (by simp [results, Tryz.results86, go_sem]) rfl ⟨rfl, by go_grown⟩
  · subst h
    go_enter Tryz.func86, Tryz.ntmps86
    go_wp2
    try (go_region; go_wp2)
    refine bodyPost_ret (v := .agg #[.string ⟨#[67, 77, 80]⟩, .int .i64 2]) (by simp [results, Tryz.results86, go_sem]) rfl ⟨rfl, by go_grown⟩
  · subst h
    go_enter Tryz.func86, Tryz.ntmps86
    go_wp2
    try (go_region; go_wp2)
    refine bodyPost_ret (v := .agg #[.string ⟨#[67, 77, 80]⟩, .int .i64 6]) (by simp [results, Tryz.results86, go_sem]) rfl ⟨rfl, by go_grown⟩
  · subst h
    go_enter Tryz.func86, Tryz.ntmps86
    go_wp2
    try (go_region; go_wp2)
    refine bodyPost_ret (v := .agg #[.string ⟨#[67, 77, 80]⟩, .int .i64 11]) (by simp [results, Tryz.results86, go_sem]) rfl ⟨rfl, by go_grown⟩
  · subst h
    go_enter Tryz.func86, Tryz.ntmps86
    go_wp2
    try (go_region; go_wp2)
    refine bodyPost_ret (v := .agg #[.string ⟨#[67, 77, 80]⟩, .int .i64 4]) (by simp [results, Tryz.results86, go_sem]) rfl ⟨rfl, by go_grown⟩
  · subst h
    go_enter Tryz.func86, Tryz.ntmps86
    go_wp2
    try (go_region; go_wp2)
    refine bodyPost_ret (v := .agg #[.string ⟨#[67, 77, 80]⟩, .int .i64 8]) (by simp [results, Tryz.results86, go_sem]) rfl ⟨rfl, by go_grown⟩
  · subst h
    go_enter Tryz.func86, Tryz.ntmps86
    go_wp2
    try (go_region; go_wp2)
    refine bodyPost_ret (v := .agg #[.string ⟨#[67, 77, 80]⟩, .int .i64 7]) (by simp [results, Tryz.results86, go_sem]) rfl ⟨rfl, by go_grown⟩
set_option maxHeartbeats 1000000 in
theorem sOne_7 (part : Int) (hp : 0 ≤ part ∧ part < 8) (w : World) :
    Calls Tryz.prog 86 #[.int .i64 7, .int .i64 part] w fun e w' => e = .returned (.agg #[.string ⟨(sOne 7 part).1.toArray⟩, .int .i64 (sOne 7 part).2]) ∧ Below w.heap.size w w' := by
  obtain h | h | h | h | h | h | h | h : part = 0 ∨ part = 1 ∨ part = 2 ∨ part = 3 ∨ part = 4 ∨ part = 5 ∨ part = 6 ∨ part = 7 := by omega
  · subst h
    go_enter Tryz.func86, Tryz.ntmps86
    go_wp2
    try (go_region; go_wp2)
    refine bodyPost_ret (v := .agg #[.string ⟨#[83, 66, 67]⟩, .int .i64 10]) (by simp [results, Tryz.results86, go_sem]) rfl ⟨rfl, by go_grown⟩
  · subst h
    go_enter Tryz.func86, Tryz.ntmps86
    go_wp2
    try (go_region; go_wp2)
    refine bodyPost_ret (v := .agg #[.string ⟨#[83, 66, 67]⟩, .int .i64 3]) (by simp [results, Tryz.results86, go_sem]) rfl ⟨rfl, by go_grown⟩
  · subst h
    go_enter Tryz.func86, Tryz.ntmps86
    go_wp2
    try (go_region; go_wp2)
    refine bodyPost_ret (v := .agg #[.string ⟨#[83, 66, 67]⟩, .int .i64 2]) (by simp [results, Tryz.results86, go_sem]) rfl ⟨rfl, by go_grown⟩
  · subst h
    go_enter Tryz.func86, Tryz.ntmps86
    go_wp2
    try (go_region; go_wp2)
    refine bodyPost_ret (v := .agg #[.string ⟨#[83, 66, 67]⟩, .int .i64 6]) (by simp [results, Tryz.results86, go_sem]) rfl ⟨rfl, by go_grown⟩
  · subst h
    go_enter Tryz.func86, Tryz.ntmps86
    go_wp2
    try (go_region; go_wp2)
    refine bodyPost_ret (v := .agg #[.string ⟨#[83, 66, 67]⟩, .int .i64 11]) (by simp [results, Tryz.results86, go_sem]) rfl ⟨rfl, by go_grown⟩
  · subst h
    go_enter Tryz.func86, Tryz.ntmps86
    go_wp2
    try (go_region; go_wp2)
    refine bodyPost_ret (v := .agg #[.string ⟨#[83, 66, 67]⟩, .int .i64 4]) (by simp [results, Tryz.results86, go_sem]) rfl ⟨rfl, by go_grown⟩
  · subst h
    go_enter Tryz.func86, Tryz.ntmps86
    go_wp2
    try (go_region; go_wp2)
    refine bodyPost_ret (v := .agg #[.string ⟨#[83, 66, 67]⟩, .int .i64 8]) (by simp [results, Tryz.results86, go_sem]) rfl ⟨rfl, by go_grown⟩
  · subst h
    go_enter Tryz.func86, Tryz.ntmps86
    go_wp2
    try (go_region; go_wp2)
    refine bodyPost_ret (v := .agg #[.string ⟨#[83, 66, 67]⟩, .int .i64 7]) (by simp [results, Tryz.results86, go_sem]) rfl ⟨rfl, by go_grown⟩
theorem sOne_c (row part : Int) (hr : 0 ≤ row ∧ row < 8) (hp : 0 ≤ part ∧ part < 8) (w : World) :
    Calls Tryz.prog 86 #[.int .i64 row, .int .i64 part] w fun e w' => e = .returned (.agg #[.string ⟨(sOne row part).1.toArray⟩, .int .i64 (sOne row part).2]) ∧ Below w.heap.size w w' := by
  obtain h | h | h | h | h | h | h | h : row = 0 ∨ row = 1 ∨ row = 2 ∨ row = 3 ∨ row = 4 ∨ row = 5 ∨ row = 6 ∨ row = 7 := by omega
  · subst h; exact sOne_0 part hp w
  · subst h; exact sOne_1 part hp w
  · subst h; exact sOne_2 part hp w
  · subst h; exact sOne_3 part hp w
  · subst h; exact sOne_4 part hp w
  · subst h; exact sOne_5 part hp w
  · subst h; exact sOne_6 part hp w
  · subst h; exact sOne_7 part hp w
end Go.Proofs.YtemahcjglmhefaaGreatDoor
