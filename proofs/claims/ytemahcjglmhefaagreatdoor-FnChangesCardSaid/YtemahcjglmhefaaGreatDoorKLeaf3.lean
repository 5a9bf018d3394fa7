/- More small functions: moves, differences. No condition. -/
import Derived.Test.YtemahcjglmhefaaGreatDoorKLeaf
namespace Go.Proofs.YtemahcjglmhefaaGreatDoor
set_option linter.unusedVariables false
set_option linter.unusedSimpArgs false
open Go.RowKit
attribute [local irreducible] World.setCell

theorem putF6 {B : Nat} {w w1 : World} {g : Nat} {a b c d e f : Value} (h : Below B w w1) (hg : B ≤ g) :
    Below B w ((((((w1.setCell ⟨g, 0, none⟩ a).setCell ⟨g, 1, none⟩ b).setCell ⟨g, 2, none⟩ c).setCell ⟨g, 3, none⟩ d).setCell ⟨g, 4, none⟩ e).setCell ⟨g, 5, none⟩ f) :=
  (((((h.setCell (p := ⟨g, 0, none⟩) hg _).setCell (p := ⟨g, 1, none⟩) hg _).setCell (p := ⟨g, 2, none⟩) hg _).setCell (p := ⟨g, 3, none⟩) hg _).setCell (p := ⟨g, 4, none⟩) hg _).setCell (p := ⟨g, 5, none⟩) hg _
set_option maxHeartbeats 400000 in
theorem Asl_c (b : Int) (f : Fl) (h0 : 0 ≤ b) (h1 : b < 256) (w : World) :
    Calls Tryz.prog 95 #[.int .u8 b, .agg #[.bool f.n, .bool f.v, .bool f.d, .bool f.i, .bool f.z, .bool f.c]] w fun e w' => e = .returned (.tuple #[.int .u8 (aslF b f).1, .agg #[.bool ((aslF b f).2).n, .bool ((aslF b f).2).v, .bool ((aslF b f).2).d, .bool ((aslF b f).2).i, .bool ((aslF b f).2).z, .bool ((aslF b f).2).c]]) ∧ Below w.heap.size w w' := by
  have e0 : IntKind.u8.wrap (b * 2) = b * 2 % 256 := IntKind.wrap_u8' _
  go_enter Tryz.func95, Tryz.ntmps95
  go_wp2_with fail
  go_region_with (first | (go_at_call 99; refine (has_c _ _ (by omega) (by omega) (by omega) (by omega) _).mono ?_; rintro e w1 ⟨rfl, rfl⟩) | (go_at_call 75; refine (bit_c _ _ (by omega) (by omega) _).mono ?_; rintro e w1 ⟨rfl, rfl⟩) | (go_at_call 106; refine (moved_c _ _ _ (by omega) (by omega) _).mono ?_; rintro e w2 ⟨rfl, hb2⟩; have k2 := (Bk.new1 w (.cells #[.bool f.n, .bool f.v, .bool f.d, .bool f.i, .bool f.z, .bool f.c] 26) 26 #[.bool false, .bool false, .bool false, .bool false, .bool false, .bool false]).drew.later hb2; have kc := k2.cell; have kf := k2.frozen))
  all_goals go_wp2
  all_goals
    refine bodyPost_ret (v := .tuple #[.int .u8 (b * 2 % 256), .agg #[.bool (movedF (b * 2 % 256) (hasB b 7) f).n, .bool (movedF (b * 2 % 256) (hasB b 7) f).v, .bool (movedF (b * 2 % 256) (hasB b 7) f).d, .bool (movedF (b * 2 % 256) (hasB b 7) f).i, .bool (movedF (b * 2 % 256) (hasB b 7) f).z, .bool (movedF (b * 2 % 256) (hasB b 7) f).c]]) (by simp [results, Tryz.results95, go_sem, kc, kf]) rfl ⟨rfl, ?_⟩
    exact putF6 (Dn.trans (Dn.al w (.cells #[.bool f.n, .bool f.v, .bool f.d, .bool f.i, .bool f.z, .bool f.c] 26)) (Dn.trans (Dn.al _ (.cells #[.bool false, .bool false, .bool false, .bool false, .bool false, .bool false] 26)) (Dn.trans (Dn.drew _) hb2))) (Nat.le_succ _)
set_option maxHeartbeats 400000 in
theorem Lsr_c (b : Int) (f : Fl) (h0 : 0 ≤ b) (h1 : b < 256) (w : World) :
    Calls Tryz.prog 96 #[.int .u8 b, .agg #[.bool f.n, .bool f.v, .bool f.d, .bool f.i, .bool f.z, .bool f.c]] w fun e w' => e = .returned (.tuple #[.int .u8 (lsrF b f).1, .agg #[.bool ((lsrF b f).2).n, .bool ((lsrF b f).2).v, .bool ((lsrF b f).2).d, .bool ((lsrF b f).2).i, .bool ((lsrF b f).2).z, .bool ((lsrF b f).2).c]]) ∧ Below w.heap.size w w' := by
  go_enter Tryz.func96, Tryz.ntmps96
  go_wp2_with fail
  go_region_with (first | (go_at_call 99; refine (has_c _ _ (by omega) (by omega) (by omega) (by omega) _).mono ?_; rintro e w1 ⟨rfl, rfl⟩) | (go_at_call 75; refine (bit_c _ _ (by omega) (by omega) _).mono ?_; rintro e w1 ⟨rfl, rfl⟩) | (go_at_call 106; refine (moved_c _ _ _ (by omega) (by omega) _).mono ?_; rintro e w2 ⟨rfl, hb2⟩; have k2 := (Bk.new1 w (.cells #[.bool f.n, .bool f.v, .bool f.d, .bool f.i, .bool f.z, .bool f.c] 26) 26 #[.bool false, .bool false, .bool false, .bool false, .bool false, .bool false]).drew.later hb2; have kc := k2.cell; have kf := k2.frozen))
  all_goals go_wp2
  all_goals
    refine bodyPost_ret (v := .tuple #[.int .u8 (b / 2), .agg #[.bool (movedF (b / 2) (hasB b 0) f).n, .bool (movedF (b / 2) (hasB b 0) f).v, .bool (movedF (b / 2) (hasB b 0) f).d, .bool (movedF (b / 2) (hasB b 0) f).i, .bool (movedF (b / 2) (hasB b 0) f).z, .bool (movedF (b / 2) (hasB b 0) f).c]]) (by simp [results, Tryz.results96, go_sem, kc, kf]) rfl ⟨rfl, ?_⟩
    exact putF6 (Dn.trans (Dn.al w (.cells #[.bool f.n, .bool f.v, .bool f.d, .bool f.i, .bool f.z, .bool f.c] 26)) (Dn.trans (Dn.al _ (.cells #[.bool false, .bool false, .bool false, .bool false, .bool false, .bool false] 26)) (Dn.trans (Dn.drew _) hb2))) (Nat.le_succ _)
set_option maxHeartbeats 3000000 in
theorem Rol_c (b : Int) (f : Fl) (h0 : 0 ≤ b) (h1 : b < 256) (w : World) :
    Calls Tryz.prog 97 #[.int .u8 b, .agg #[.bool f.n, .bool f.v, .bool f.d, .bool f.i, .bool f.z, .bool f.c]] w fun e w' => e = .returned (.tuple #[.int .u8 (rolF b f).1, .agg #[.bool ((rolF b f).2).n, .bool ((rolF b f).2).v, .bool ((rolF b f).2).d, .bool ((rolF b f).2).i, .bool ((rolF b f).2).z, .bool ((rolF b f).2).c]]) ∧ Below w.heap.size w w' := by
  have e0 : IntKind.u8.wrap (b * 2) = b * 2 % 256 := IntKind.wrap_u8' _
  have e1 := rol_or b f.c h0 h1
  have e2 := oneB_le f.c
  go_enter Tryz.func97, Tryz.ntmps97
  go_wp2_with fail
  go_region_with (first | (go_at_call 99; refine (has_c _ _ (by omega) (by omega) (by omega) (by omega) _).mono ?_; rintro e w1 ⟨rfl, rfl⟩) | (go_at_call 75; refine (bit_c _ _ (by omega) (by omega) _).mono ?_; rintro e w1 ⟨rfl, rfl⟩) | (go_at_call 106; refine (moved_c _ _ _ (by omega) (by omega) _).mono ?_; rintro e w2 ⟨rfl, hb2⟩; have k2 := (Bk.new1 w (.cells #[.bool f.n, .bool f.v, .bool f.d, .bool f.i, .bool f.z, .bool f.c] 26) 26 #[.bool false, .bool false, .bool false, .bool false, .bool false, .bool false]).drew.later hb2; have kc := k2.cell; have kf := k2.frozen))
  all_goals go_wp2
  all_goals
    refine bodyPost_ret (v := .tuple #[.int .u8 (b * 2 % 256 + oneB f.c), .agg #[.bool (movedF (b * 2 % 256 + oneB f.c) (hasB b 7) f).n, .bool (movedF (b * 2 % 256 + oneB f.c) (hasB b 7) f).v, .bool (movedF (b * 2 % 256 + oneB f.c) (hasB b 7) f).d, .bool (movedF (b * 2 % 256 + oneB f.c) (hasB b 7) f).i, .bool (movedF (b * 2 % 256 + oneB f.c) (hasB b 7) f).z, .bool (movedF (b * 2 % 256 + oneB f.c) (hasB b 7) f).c]]) (by simp [results, Tryz.results97, go_sem, kc, kf]) rfl ⟨rfl, ?_⟩
    exact putF6 (Dn.trans (Dn.al w (.cells #[.bool f.n, .bool f.v, .bool f.d, .bool f.i, .bool f.z, .bool f.c] 26)) (Dn.trans (Dn.al _ (.cells #[.bool false, .bool false, .bool false, .bool false, .bool false, .bool false] 26)) (Dn.trans (Dn.drew _) hb2))) (Nat.le_succ _)
set_option maxHeartbeats 3000000 in
theorem Ror_c (b : Int) (f : Fl) (h0 : 0 ≤ b) (h1 : b < 256) (w : World) :
    Calls Tryz.prog 98 #[.int .u8 b, .agg #[.bool f.n, .bool f.v, .bool f.d, .bool f.i, .bool f.z, .bool f.c]] w fun e w' => e = .returned (.tuple #[.int .u8 (rorF b f).1, .agg #[.bool ((rorF b f).2).n, .bool ((rorF b f).2).v, .bool ((rorF b f).2).d, .bool ((rorF b f).2).i, .bool ((rorF b f).2).z, .bool ((rorF b f).2).c]]) ∧ Below w.heap.size w w' := by
  have e1 := ror_or b f.c h0 h1
  have e2 := oneB_le f.c
  go_enter Tryz.func98, Tryz.ntmps98
  go_wp2_with fail
  go_region_with (first | (go_at_call 99; refine (has_c _ _ (by omega) (by omega) (by omega) (by omega) _).mono ?_; rintro e w1 ⟨rfl, rfl⟩) | (go_at_call 75; refine (bit_c _ _ (by omega) (by omega) _).mono ?_; rintro e w1 ⟨rfl, rfl⟩) | (go_at_call 106; refine (moved_c _ _ _ (by omega) (by omega) _).mono ?_; rintro e w2 ⟨rfl, hb2⟩; have k2 := (Bk.new1 w (.cells #[.bool f.n, .bool f.v, .bool f.d, .bool f.i, .bool f.z, .bool f.c] 26) 26 #[.bool false, .bool false, .bool false, .bool false, .bool false, .bool false]).drew.later hb2; have kc := k2.cell; have kf := k2.frozen))
  all_goals go_wp2
  all_goals
    refine bodyPost_ret (v := .tuple #[.int .u8 (b / 2 + oneB f.c * 128), .agg #[.bool (movedF (b / 2 + oneB f.c * 128) (hasB b 0) f).n, .bool (movedF (b / 2 + oneB f.c * 128) (hasB b 0) f).v, .bool (movedF (b / 2 + oneB f.c * 128) (hasB b 0) f).d, .bool (movedF (b / 2 + oneB f.c * 128) (hasB b 0) f).i, .bool (movedF (b / 2 + oneB f.c * 128) (hasB b 0) f).z, .bool (movedF (b / 2 + oneB f.c * 128) (hasB b 0) f).c]]) (by simp [results, Tryz.results98, go_sem, kc, kf]) rfl ⟨rfl, ?_⟩
    exact putF6 (Dn.trans (Dn.al w (.cells #[.bool f.n, .bool f.v, .bool f.d, .bool f.i, .bool f.z, .bool f.c] 26)) (Dn.trans (Dn.al _ (.cells #[.bool false, .bool false, .bool false, .bool false, .bool false, .bool false] 26)) (Dn.trans (Dn.drew _) hb2))) (Nat.le_succ _)
theorem BitTest_c (a b : Int) (f : Fl) (h0 : 0 ≤ a) (h1 : a < 256) (h2 : 0 ≤ b) (h3 : b < 256) (w : World) :
    Calls Tryz.prog 94 #[.int .u8 a, .int .u8 b, .agg #[.bool f.n, .bool f.v, .bool f.d, .bool f.i, .bool f.z, .bool f.c]] w fun e w' => e = .returned (.agg #[.bool (bitTestF a b f).n, .bool (bitTestF a b f).v, .bool (bitTestF a b f).d, .bool (bitTestF a b f).i, .bool (bitTestF a b f).z, .bool (bitTestF a b f).c]) ∧ Below w.heap.size w w' := by
  go_enter Tryz.func94, Tryz.ntmps94
  go_wp2_with (first | (go_at_call 99; refine (has_c _ _ (by omega) (by omega) (by omega) (by omega) _).mono ?_; rintro e w1 ⟨rfl, rfl⟩) | go_in)
  go_returns
  exact ⟨by simp [bitTestF], by go_grown⟩
end Go.Proofs.YtemahcjglmhefaaGreatDoor
