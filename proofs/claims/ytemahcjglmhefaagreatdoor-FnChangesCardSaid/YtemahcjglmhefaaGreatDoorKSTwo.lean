/- The reference's table of operations, side Two. No condition. -/
import Derived.Test.YtemahcjglmhefaaGreatDoorKOp
import Derived.Handy
namespace Go.Proofs.YtemahcjglmhefaaGreatDoor
set_option linter.unusedVariables false
set_option linter.unusedSimpArgs false
open Go.RowKit

def sTwoT : List (List UInt8 × Int) := [([], 0), ([65, 83, 76], 3), ([65, 83, 76], 1), ([65, 83, 76], 6), ([], 0), ([65, 83, 76], 4), ([], 0), ([65, 83, 76], 7), ([], 0), ([82, 79, 76], 3), ([82, 79, 76], 1), ([82, 79, 76], 6), ([], 0), ([82, 79, 76], 4), ([], 0), ([82, 79, 76], 7), ([], 0), ([76, 83, 82], 3), ([76, 83, 82], 1), ([76, 83, 82], 6), ([], 0), ([76, 83, 82], 4), ([], 0), ([76, 83, 82], 7), ([], 0), ([82, 79, 82], 3), ([82, 79, 82], 1), ([82, 79, 82], 6), ([], 0), ([82, 79, 82], 4), ([], 0), ([82, 79, 82], 7), ([], 0), ([83, 84, 88], 3), ([84, 88, 65], 0), ([83, 84, 88], 6), ([], 0), ([83, 84, 88], 5), ([84, 88, 83], 0), ([], 0), ([76, 68, 88], 2), ([76, 68, 88], 3), ([84, 65, 88], 0), ([76, 68, 88], 6), ([], 0), ([76, 68, 88], 5), ([84, 83, 88], 0), ([76, 68, 88], 8), ([], 0), ([68, 69, 67], 3), ([68, 69, 88], 0), ([68, 69, 67], 6), ([], 0), ([68, 69, 67], 4), ([], 0), ([68, 69, 67], 7), ([], 0), ([73, 78, 67], 3), ([78, 79, 80], 0), ([73, 78, 67], 6), ([], 0), ([73, 78, 67], 4), ([], 0), ([73, 78, 67], 7)]
def sTwo (row part : Int) : List UInt8 × Int := sTwoT.getD (row * 8 + part).toNat ([], 0)
set_option maxHeartbeats 1000000 in
theorem sTwo_0 (part : Int) (hp : 0 ≤ part ∧ part < 8) (w : World) :
    Calls Tryz.prog 87 #[.int .i64 0, .int .i64 part] w fun e w' => e = .returned (.agg #[.string ⟨(sTwo 0 part).1.toArray⟩, .int .i64 (sTwo 0 part).2]) ∧ Below w.heap.size w w' := by
  obtain h | h | h | h | h | h | h | h : part = 0 ∨ part = 1 ∨ part = 2 ∨ part = 3 ∨ part = 4 ∨ part = 5 ∨ part = 6 ∨ part = 7 := by omega
  · subst h
    go_enter Tryz.func87, Tryz.ntmps87
    go_wp2
    try (go_region; go_wp2)
    refine bodyPost_ret (v := .agg #[.string ⟨#[]⟩, .int .i64 0]) (by simp [results, Tryz.results87, go_sem]) rfl ⟨rfl, by go_grown⟩
  · subst h
    go_enter Tryz.func87, Tryz.ntmps87
    go_wp2
    try (go_region; go_wp2)
    refine bodyPost_ret (v := .agg #[.string ⟨#[65, 83, 76]⟩, .int .i64 3]) (by simp [results, Tryz.results87, go_sem]) rfl ⟨rfl, by go_grown⟩
  · subst h
    go_enter Tryz.func87, Tryz.ntmps87
    go_wp2
    try (go_region; go_wp2)
    refine bodyPost_ret (v := .agg #[.string ⟨#[65, 83, 76]⟩, .int .i64 1]) (by simp [results, Tryz.results87, go_sem]) rfl ⟨rfl, by go_grown⟩
  · subst h
    go_enter Tryz.func87, Tryz.ntmps87
    go_wp2
    try (go_region; go_wp2)
    refine bodyPost_ret (v := .agg #[.string ⟨#[65, 83, 76]⟩, .int .i64 6]) (by simp [results, Tryz.results87, go_sem]) rfl ⟨rfl, by go_grown⟩
  · subst h
    go_enter Tryz.func87, Tryz.ntmps87
    go_wp2
    try (go_region; go_wp2)
    refine bodyPost_ret (v := .agg #[.string ⟨#[]⟩, .int .i64 0]) (by simp [results, Tryz.results87, go_sem]) rfl ⟨rfl, by go_grown⟩
  · subst h
    go_enter Tryz.func87, Tryz.ntmps87
    go_wp2
    try (go_region; go_wp2)
    refine bodyPost_ret (v := .agg #[.string ⟨#[65, 83, 76]⟩, .int .i64 4]) (by simp [results, Tryz.results87, go_sem]) rfl ⟨rfl, by go_grown⟩
  · subst h
    go_enter Tryz.func87, Tryz.ntmps87
    go_wp2
    try (go_region; go_wp2)
    refine bodyPost_ret (v := .agg #[.string ⟨#[]⟩, .int .i64 0]) (by simp [results, Tryz.results87, go_sem]) rfl ⟨rfl, by go_grown⟩
  · subst h
    go_enter Tryz.func87, Tryz.ntmps87
    go_wp2
    try (go_region; go_wp2)
    refine bodyPost_ret (v := .agg #[.string ⟨#[65, 83, 76]⟩, .int .i64 7]) (by simp [results, Tryz.results87, go_sem]) rfl ⟨rfl, by go_grown⟩
set_option maxHeartbeats 1000000 in
theorem sTwo_1 (part : Int) (hp : 0 ≤ part ∧ part < 8) (w : World) :
    Calls Tryz.prog 87 #[.int .i64 1, .int .i64 part] w fun e w' => e = .returned (.agg #[.string ⟨(sTwo 1 part).1.toArray⟩, .int .i64 (sTwo 1 part).2]) ∧ Below w.heap.size w w' := by
  obtain h | h | h | h | h | h | h | h : part = 0 ∨ part = 1 ∨ part = 2 ∨ part = 3 ∨ part = 4 ∨ part = 5 ∨ part = 6 ∨ part = 7 := by omega
  · subst h
    go_enter Tryz.func87, Tryz.ntmps87
    go_wp2
    try (go_region; go_wp2)
    refine bodyPost_ret (v := .agg #[.string ⟨#[]⟩, .int .i64 0]) (by simp [results, Tryz.results87, go_sem]) rfl ⟨rfl, by go_grown⟩
  · subst h
    go_enter Tryz.func87, Tryz.ntmps87
    go_wp2
    try (go_region; go_wp2)
    refine bodyPost_ret (v := .agg #[.string ⟨#[82, 79, 76]⟩, .int .i64 3]) (by simp [results, Tryz.results87, go_sem]) rfl ⟨rfl, by go_grown⟩
  · subst h
    go_enter Tryz.func87, Tryz.ntmps87
    go_wp2
    try (go_region; go_wp2)
    refine bodyPost_ret (v := .agg #[.string ⟨#[82, 79, 76]⟩, .int .i64 1]) (by simp [results, Tryz.results87, go_sem]) rfl ⟨rfl, by go_grown⟩
  · subst h
    go_enter Tryz.func87, Tryz.ntmps87
    go_wp2
    try (go_region; go_wp2)
    refine bodyPost_ret (v := .agg #[.string ⟨#[82, 79, 76]⟩, .int .i64 6]) (by simp [results, Tryz.results87, go_sem]) rfl ⟨rfl, by go_grown⟩
  · subst h
    go_enter Tryz.func87, Tryz.ntmps87
    go_wp2
    try (go_region; go_wp2)
    refine bodyPost_ret (v := .agg #[.string ⟨#[]⟩, .int .i64 0]) (by simp [results, Tryz.results87, go_sem]) rfl ⟨rfl, by go_grown⟩
  · subst h
    go_enter Tryz.func87, Tryz.ntmps87
    go_wp2
    try (go_region; go_wp2)
    refine bodyPost_ret (v := .agg #[.string ⟨#[82, 79, 76]⟩, .int .i64 4]) (by simp [results, Tryz.results87, go_sem]) rfl ⟨rfl, by go_grown⟩
  · subst h
    go_enter Tryz.func87, Tryz.ntmps87
    go_wp2
    try (go_region; go_wp2)
    refine bodyPost_ret (v := .agg #[.string ⟨#[]⟩, .int .i64 0]) (by simp [results, Tryz.results87, go_sem]) rfl ⟨rfl, by go_grown⟩
  · subst h
    go_enter Tryz.func87, Tryz.ntmps87
    go_wp2
    try (go_region; go_wp2)
    refine bodyPost_ret (v := .agg #[.string ⟨#[82, 79, 76]⟩, .int .i64 7]) (by simp [results, Tryz.results87, go_sem]) rfl ⟨rfl, by go_grown⟩
set_option maxHeartbeats 1000000 in
theorem sTwo_2 (part : Int) (hp : 0 ≤ part ∧ part < 8) (w : World) :
    Calls Tryz.prog 87 #[.int .i64 2, .int .i64 part] w fun e w' => e = .returned (.agg #[.string ⟨(sTwo 2 part).1.toArray⟩, .int .i64 (sTwo 2 part).2]) ∧ Below w.heap.size w w' := by
  obtain h | h | h | h | h | h | h | h : part = 0 ∨ part = 1 ∨ part = 2 ∨ part = 3 ∨ part = 4 ∨ part = 5 ∨ part = 6 ∨ part = 7 := by omega
  · subst h
    go_enter Tryz.func87, Tryz.ntmps87
    go_wp2
    try (go_region; go_wp2)
    refine bodyPost_ret (v := .agg #[.string ⟨#[]⟩, .int .i64 0]) (by simp [results, Tryz.results87, go_sem]) rfl ⟨rfl, by go_grown⟩
  · subst h
    go_enter Tryz.func87, Tryz.ntmps87
    go_wp2
    try (go_region; go_wp2)
    refine bodyPost_ret (v := .agg #[.string ⟨#[76, 83, 82]⟩, .int .i64 3]) (by simp [results, Tryz.results87, go_sem]) rfl ⟨rfl, by go_grown⟩
  · subst h
    go_enter Tryz.func87, Tryz.ntmps87
    go_wp2
    try (go_region; go_wp2)
    refine bodyPost_ret (v := .agg #[.string ⟨#[76, 83, 82]⟩, .int .i64 1]) (by simp [results, Tryz.results87, go_sem]) rfl ⟨rfl, by go_grown⟩
  · subst h
    go_enter Tryz.func87, Tryz.ntmps87
    go_wp2
    try (go_region; go_wp2)
    refine bodyPost_ret (v := .agg #[.string ⟨#[76, 83, 82]⟩, .int .i64 6]) (by simp [results, Tryz.results87, go_sem]) rfl ⟨rfl, by go_grown⟩
  · subst h
    go_enter Tryz.func87, Tryz.ntmps87
    go_wp2
    try (go_region; go_wp2)
    refine bodyPost_ret (v := .agg #[.string ⟨#[]⟩, .int .i64 0]) (by simp [results, Tryz.results87, go_sem]) rfl ⟨rfl, by go_grown⟩
  · subst h
    go_enter Tryz.func87, Tryz.ntmps87
    go_wp2
    try (go_region; go_wp2)
    refine bodyPost_ret (v := .agg #[.string ⟨#[76, 83, 82]⟩, .int .i64 4]) (by simp [results, Tryz.results87, go_sem]) rfl ⟨rfl, by go_grown⟩
  · subst h
    go_enter Tryz.func87, Tryz.ntmps87
    go_wp2
    try (go_region; go_wp2)
    refine bodyPost_ret (v := .agg #[.string ⟨#[]⟩, .int .i64 0]) (by simp [results, Tryz.results87, go_sem]) rfl ⟨rfl, by go_grown⟩
  · subst h
    go_enter Tryz.func87, Tryz.ntmps87
    go_wp2
    try (go_region; go_wp2)
    refine bodyPost_ret (v := .agg #[.string ⟨#[76, 83, 82]⟩, .int .i64 7]) (by simp [results, Tryz.results87, go_sem]) rfl ⟨rfl, by go_grown⟩
set_option maxHeartbeats 1000000 in
theorem sTwo_3 (part : Int) (hp : 0 ≤ part ∧ part < 8) (w : World) :
    Calls Tryz.prog 87 #[.int .i64 3, .int .i64 part] w fun e w' => e = .returned (.agg #[.string ⟨(sTwo 3 part).1.toArray⟩, .int .i64 (sTwo 3 part).2]) ∧ Below w.heap.size w w' := by
  obtain h | h | h | h | h | h | h | h : part = 0 ∨ part = 1 ∨ part = 2 ∨ part = 3 ∨ part = 4 ∨ part = 5 ∨ part = 6 ∨ part = 7 := by omega
  · subst h
    go_enter Tryz.func87, Tryz.ntmps87
    go_wp2
    try (go_region; go_wp2)
    refine bodyPost_ret (v := .agg #[.string ⟨#[]⟩, .int .i64 0]) (by simp [results, Tryz.results87, go_sem]) rfl ⟨rfl, by go_grown⟩
  · subst h
    go_enter Tryz.func87, Tryz.ntmps87
    go_wp2
    try (go_region; go_wp2)
    refine bodyPost_ret (v := .agg #[.string ⟨#[82, 79, 82]⟩, .int .i64 3]) (by simp [results, Tryz.results87, go_sem]) rfl ⟨rfl, by go_grown⟩
  · subst h
    go_enter Tryz.func87, Tryz.ntmps87
    go_wp2
    try (go_region; go_wp2)
    refine bodyPost_ret (v := .agg #[.string ⟨#[82, 79, 82]⟩, .int .i64 1]) (by simp [results, Tryz.results87, go_sem]) rfl ⟨rfl, by go_grown⟩
  · subst h
    go_enter Tryz.func87, Tryz.ntmps87
    go_wp2
    try (go_region; go_wp2)
    refine bodyPost_ret (v := .agg #[.string ⟨#[82, 79, 82]⟩, .int .i64 6]) (by simp [results, Tryz.results87, go_sem]) rfl ⟨rfl, by go_grown⟩
  · subst h
    go_enter Tryz.func87, Tryz.ntmps87
    go_wp2
    try (go_region; go_wp2)
    refine bodyPost_ret (v := .agg #[.string ⟨#[]⟩, .int .i64 0]) (by simp [results, Tryz.results87, go_sem]) rfl ⟨rfl, by go_grown⟩
  · subst h
    go_enter Tryz.func87, Tryz.ntmps87
    go_wp2
    try (go_region; go_wp2)
    refine bodyPost_ret (v := .agg #[.string ⟨#[82, 79, 82]⟩, .int .i64 4]) (by simp [results, Tryz.results87, go_sem]) rfl ⟨rfl, by go_grown⟩
  · subst h
    go_enter Tryz.func87, Tryz.ntmps87
    go_wp2
    try (go_region; go_wp2)
    refine bodyPost_ret (v := .agg #[.string ⟨#[]⟩, .int .i64 0]) (by simp [results, Tryz.results87, go_sem]) rfl ⟨rfl, by go_grown⟩
  · subst h
    go_enter Tryz.func87, Tryz.ntmps87
    go_wp2
    try (go_region; go_wp2)
    refine bodyPost_ret (v := .agg #[.string ⟨#[82, 79, 82]⟩, .int .i64 7]) (by simp [results, Tryz.results87, go_sem]) rfl ⟨rfl, by go_grown⟩
set_option maxHeartbeats 1000000 in
theorem sTwo_4 (part : Int) (hp : 0 ≤ part ∧ part < 8) (w : World) :
    Calls Tryz.prog 87 #[.int .i64 4, .int .i64 part] w fun e w' => e = .returned (.agg #[.string ⟨(sTwo 4 part).1.toArray⟩, .int .i64 (sTwo 4 part).2]) ∧ Below w.heap.size w w' := by
  obtain h | h | h | h | h | h | h | h : part = 0 ∨ part = 1 ∨ part = 2 ∨ part = 3 ∨ part = 4 ∨ part = 5 ∨ part = 6 ∨ part = 7 := by omega
  · subst h
    go_enter Tryz.func87, Tryz.ntmps87
    go_wp2
    try (go_region; go_wp2)
    refine bodyPost_ret (v := .agg #[.string ⟨#[]⟩, .int .i64 0]) (by simp [results, Tryz.results87, go_sem]) rfl ⟨rfl, by go_grown⟩
  · subst h
    go_enter Tryz.func87, Tryz.ntmps87
    go_wp2
    try (go_region; go_wp2)
    refine bodyPost_ret (v := .agg #[.string ⟨#[83, 84, 88]⟩, .int .i64 3]) (by simp [results, Tryz.results87, go_sem]) rfl ⟨rfl, by go_grown⟩
  · subst h
    go_enter Tryz.func87, Tryz.ntmps87
    go_wp2
    try (go_region; go_wp2)
    refine bodyPost_ret (v := .agg #[.string ⟨#[84, 88, 65]⟩, .int .i64 0]) (by simp [results, Tryz.results87, go_sem]) rfl ⟨rfl, by go_grown⟩
  · subst h
    go_enter Tryz.func87, Tryz.ntmps87
    go_wp2
    try (go_region; go_wp2)
    refine bodyPost_ret (v := .agg #[.string ⟨#[83, 84, 88]⟩, .int .i64 6]) (by simp [results, Tryz.results87, go_sem]) rfl ⟨rfl, by go_grown⟩
  · subst h
    go_enter Tryz.func87, Tryz.ntmps87
    go_wp2
    try (go_region; go_wp2)
    refine bodyPost_ret (v := .agg #[.string ⟨#[]⟩, .int .i64 0]) (by simp [results, Tryz.results87, go_sem]) rfl ⟨rfl, by go_grown⟩
  · subst h
    go_enter Tryz.func87, Tryz.ntmps87
    go_wp2
    try (go_region; go_wp2)
    refine bodyPost_ret (v := .agg #[.string ⟨#[83, 84, 88]⟩, .int .i64 5]) (by simp [results, Tryz.results87, go_sem]) rfl ⟨rfl, by go_grown⟩
  · subst h
    go_enter Tryz.func87, Tryz.ntmps87
    go_wp2
    try (go_region; go_wp2)
    refine bodyPost_ret (v := .agg #[.string ⟨#[84, 88, 83]⟩, .int .i64 0]) (by simp [results, Tryz.results87, go_sem]) rfl ⟨rfl, by go_grown⟩
  · subst h
    go_enter Tryz.func87, Tryz.ntmps87
    go_wp2
    try (go_region; go_wp2)
    refine bodyPost_ret (v := .agg #[.string ⟨#[]⟩, .int .i64 0]) (by simp [results, Tryz.results87, go_sem]) rfl ⟨rfl, by go_grown⟩
set_option maxHeartbeats 1000000 in
theorem sTwo_5 (part : Int) (hp : 0 ≤ part ∧ part < 8) (w : World) :
    Calls Tryz.prog 87 #[.int .i64 5, .int .i64 part] w fun e w' => e = .returned (.agg #[.string ⟨(sTwo 5 part).1.toArray⟩, .int .i64 (sTwo 5 part).2]) ∧ Below w.heap.size w w' := by
  obtain h | h | h | h | h | h | h | h : part = 0 ∨ part = 1 ∨ part = 2 ∨ part = 3 ∨ part = 4 ∨ part = 5 ∨ part = 6 ∨ part = 7 := by omega
  · subst h
    go_enter Tryz.func87, Tryz.ntmps87
    go_wp2
    try (go_region; go_wp2)
    refine bodyPost_ret (v := .agg #[.string ⟨#[76, 68, 88]⟩, .int .i64 2]) (by simp [results, Tryz.results87, go_sem]) rfl ⟨rfl, by go_grown⟩
  · subst h
    go_enter Tryz.func87, Tryz.ntmps87
    go_wp2
    try (go_region; go_wp2)
    refine bodyPost_ret (v := .agg #[.string ⟨#[76, 68, 88]⟩, .int .i64 3]) (by simp [results, Tryz.results87, go_sem]) rfl ⟨rfl, by go_grown⟩
  · subst h
    go_enter Tryz.func87, Tryz.ntmps87
    go_wp2
    try (go_region; go_wp2)
    refine bodyPost_ret (v := .agg #[.string ⟨#[84, 65, 88]⟩, .int .i64 0]) (by simp [results, Tryz.results87, go_sem]) rfl ⟨rfl, by go_grown⟩
  · subst h
    go_enter Tryz.func87, Tryz.ntmps87
    go_wp2
    try (go_region; go_wp2)
    refine bodyPost_ret (v := .agg #[.string ⟨#[76, 68, 88]⟩, .int .i64 6]) (by simp [results, Tryz.results87, go_sem]) rfl ⟨rfl, by go_grown⟩
  · subst h
    go_enter Tryz.func87, Tryz.ntmps87
    go_wp2
    try (go_region; go_wp2)
    refine bodyPost_ret (v := .agg #[.string ⟨#[]⟩, .int .i64 0]) (by simp [results, Tryz.results87, go_sem]) rfl ⟨rfl, by go_grown⟩
  · subst h
    go_enter Tryz.func87, Tryz.ntmps87
    go_wp2
    try (go_region; go_wp2)
    refine bodyPost_ret (v := .agg #[.string ⟨#[76, 68, 88]⟩, .int .i64 5]) (by simp [results, Tryz.results87, go_sem]) rfl ⟨rfl, by go_grown⟩
  · subst h
    go_enter Tryz.func87, Tryz.ntmps87
    go_wp2
    try (go_region; go_wp2)
    refine bodyPost_ret (v := .agg #[.string ⟨#[84, 83, 88]⟩, .int .i64 0]) (by simp [results, Tryz.results87, go_sem]) rfl ⟨rfl, by go_grown⟩
  · subst h
    go_enter Tryz.func87, Tryz.ntmps87
    go_wp2
    try (go_region; go_wp2)
    refine bodyPost_ret (v := .agg #[.string ⟨#[76, 68, 88]⟩, .int .i64 8]) (by simp [results, Tryz.results87, go_sem]) rfl ⟨rfl, by go_grown⟩
set_option maxHeartbeats 1000000 in
theorem sTwo_6 (part : Int) (hp : 0 ≤ part ∧ part < 8) (w : World) :
    Calls Tryz.prog 87 #[.int .i64 6, .int .i64 part] w fun e w' => e = .returned (.agg #[.string ⟨(sTwo 6 part).1.toArray⟩, .int .i64 (sTwo 6 part).2]) ∧ Below w.heap.size w w' := by
  obtain h | h | h | h | h | h | h | h : part = 0 ∨ part = 1 ∨ part = 2 ∨ part = 3 ∨ part = 4 ∨ part = 5 ∨ part = 6 ∨ part = 7 := by omega
  · subst h
    go_enter Tryz.func87, Tryz.ntmps87
    go_wp2
    try (go_region; go_wp2)
    refine bodyPost_ret (v := .agg #[.string ⟨#[]⟩, .int .i64 0]) (by simp [results, Tryz.results87, go_sem]) rfl ⟨rfl, by go_grown⟩
  · subst h
    go_enter Tryz.func87, Tryz.ntmps87
    go_wp2
    try (go_region; go_wp2)
    refine bodyPost_ret (v := .agg #[.string ⟨#[68, 69, 67]⟩, .int .i64 3]) (by simp [results, Tryz.results87, go_sem]) rfl ⟨rfl, by go_grown⟩
  · subst h
    go_enter Tryz.func87, Tryz.ntmps87
    go_wp2
    try (go_region; go_wp2)
    refine bodyPost_ret (v := .agg #[.string ⟨#[68, 69, 88]⟩, .int .i64 0]) (by simp [results, Tryz.results87, go_sem]) rfl ⟨rfl, by go_grown⟩
  · subst h
    go_enter Tryz.func87, Tryz.ntmps87
    go_wp2
    try (go_region; go_wp2)
    refine bodyPost_ret (v := .agg #[.string ⟨#[68, 69, 67]⟩, .int .i64 6]) (by simp [results, Tryz.results87, go_sem]) rfl ⟨rfl, by go_grown⟩
  · subst h
    go_enter Tryz.func87, Tryz.ntmps87
    go_wp2
    try (go_region; go_wp2)
    refine bodyPost_ret (v := .agg #[.string ⟨#[]⟩, .int .i64 0]) (by simp [results, Tryz.results87, go_sem]) rfl ⟨rfl, by go_grown⟩
  · subst h
    go_enter Tryz.func87, Tryz.ntmps87
    go_wp2
    try (go_region; go_wp2)
    refine bodyPost_ret (v := .agg #[.string ⟨#[68, 69, 67]⟩, .int .i64 4]) (by simp [results, Tryz.results87, go_sem]) rfl ⟨rfl, by go_grown⟩
  · subst h
    go_enter Tryz.func87, Tryz.ntmps87
    go_wp2
    try (go_region; go_wp2)
    refine bodyPost_ret (v := .agg #[.string ⟨#[]⟩, .int .i64 0]) (by simp [results, Tryz.results87, go_sem]) rfl ⟨rfl, by go_grown⟩
  · subst h
    go_enter Tryz.func87, Tryz.ntmps87
    go_wp2
    try (go_region; go_wp2)
    refine bodyPost_ret (v := .agg #[.string ⟨#[68, 69, 67]⟩, .int .i64 7]) (by simp [results, Tryz.results87, go_sem]) rfl ⟨rfl, by go_grown⟩
set_option maxHeartbeats 1000000 in
theorem sTwo_7 (part : Int) (hp : 0 ≤ part ∧ part < 8) (w : World) :
    Calls Tryz.prog 87 #[.int .i64 7, .int .i64 part] w fun e w' => e = .returned (.agg #[.string ⟨(sTwo 7 part).1.toArray⟩, .int .i64 (sTwo 7 part).2]) ∧ Below w.heap.size w w' := by
  obtain h | h | h | h | h | h | h | h : part = 0 ∨ part = 1 ∨ part = 2 ∨ part = 3 ∨ part = 4 ∨ part = 5 ∨ part = 6 ∨ part = 7 := by omega
  · subst h
    go_enter Tryz.func87, Tryz.ntmps87
    go_wp2
    try (go_region; go_wp2)
    refine bodyPost_ret (v := .agg #[.string ⟨#[]⟩, .int .i64 0]) (by simp [results, Tryz.results87, go_sem]) rfl ⟨rfl, by go_grown⟩
  · subst h
    go_enter Tryz.func87, Tryz.ntmps87
    go_wp2
    try (go_region; go_wp2)
    refine bodyPost_ret (v := .agg #[.string ⟨#[73, 78, 67]⟩, .int .i64 3]) (by simp [results, Tryz.results87, go_sem]) rfl ⟨rfl, by go_grown⟩
  · subst h
    go_enter Tryz.func87, Tryz.ntmps87
    go_wp2
    try (go_region; go_wp2)
    refine bodyPost_ret (v := .agg #[.string ⟨#[78, 79, 80]⟩, .int .i64 0]) (by simp [results, Tryz.results87, go_sem]) rfl ⟨rfl, by go_grown⟩
  · subst h
    go_enter Tryz.func87, Tryz.ntmps87
    go_wp2
    try (go_region; go_wp2)
    refine bodyPost_ret (v := .agg #[.string ⟨#[73, 78, 67]⟩, .int .i64 6]) (by simp [results, Tryz.results87, go_sem]) rfl ⟨rfl, by go_grown⟩
  · subst h
    go_enter Tryz.func87, Tryz.ntmps87
    go_wp2
    try (go_region; go_wp2)
    refine bodyPost_ret (v := .agg #[.string ⟨#[]⟩, .int .i64 0]) (by simp [results, Tryz.results87, go_sem]) rfl ⟨rfl, by go_grown⟩
  · subst h
    go_enter Tryz.func87, Tryz.ntmps87
    go_wp2
    try (go_region; go_wp2)
    refine bodyPost_ret (v := .agg #[.string ⟨#[73, 78, 67]⟩, .int .i64 4]) (by simp [results, Tryz.results87, go_sem]) rfl ⟨rfl, by go_grown⟩
  · subst h
    go_enter Tryz.func87, Tryz.ntmps87
    go_wp2
    try (go_region; go_wp2)
    refine bodyPost_ret (v := .agg #[.string ⟨#[]⟩, .int .i64 0]) (by simp [results, Tryz.results87, go_sem]) rfl ⟨rfl, by go_grown⟩
  · subst h
    go_enter Tryz.func87, Tryz.ntmps87
    go_wp2
    try (go_region; go_wp2)
    refine bodyPost_ret (v := .agg #[.string ⟨#[73, 78, 67]⟩, .int .i64 7]) (by simp [results, Tryz.results87, go_sem]) rfl ⟨rfl, by go_grown⟩
theorem sTwo_c (row part : Int) (hr : 0 ≤ row ∧ row < 8) (hp : 0 ≤ part ∧ part < 8) (w : World) :
    Calls Tryz.prog 87 #[.int .i64 row, .int .i64 part] w fun e w' => e = .returned (.agg #[.string ⟨(sTwo row part).1.toArray⟩, .int .i64 (sTwo row part).2]) ∧ Below w.heap.size w w' := by
  obtain h | h | h | h | h | h | h | h : row = 0 ∨ row = 1 ∨ row = 2 ∨ row = 3 ∨ row = 4 ∨ row = 5 ∨ row = 6 ∨ row = 7 := by omega
  · subst h; exact sTwo_0 part hp w
  · subst h; exact sTwo_1 part hp w
  · subst h; exact sTwo_2 part hp w
  · subst h; exact sTwo_3 part hp w
  · subst h; exact sTwo_4 part hp w
  · subst h; exact sTwo_5 part hp w
  · subst h; exact sTwo_6 part hp w
  · subst h; exact sTwo_7 part hp w
end Go.Proofs.YtemahcjglmhefaaGreatDoor
