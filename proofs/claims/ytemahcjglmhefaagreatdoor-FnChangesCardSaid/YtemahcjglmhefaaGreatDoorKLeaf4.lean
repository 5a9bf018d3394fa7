/- A difference of bytes. No condition. -/
import Derived.Test.YtemahcjglmhefaaGreatDoorKLeaf
namespace Go.Proofs.YtemahcjglmhefaaGreatDoor
set_option linter.unusedVariables false
set_option linter.unusedSimpArgs false
open Go.RowKit
attribute [local irreducible] World.setCell

theorem putF6 {B : Nat} {w w1 : World} {g : Nat} {a b c d e f : Value} (h : Below B w w1) (hg : B ≤ g) :
    Below B w ((((((w1.setCell ⟨g, 0, none⟩ a).setCell ⟨g, 1, none⟩ b).setCell ⟨g, 2, none⟩ c).setCell ⟨g, 3, none⟩ d).setCell ⟨g, 4, none⟩ e).setCell ⟨g, 5, none⟩ f) :=
  (((((h.setCell (p := ⟨g, 0, none⟩) hg _).setCell (p := ⟨g, 1, none⟩) hg _).setCell (p := ⟨g, 2, none⟩) hg _).setCell (p := ⟨g, 3, none⟩) hg _).setCell (p := ⟨g, 4, none⟩) hg _).setCell (p := ⟨g, 5, none⟩) hg _

set_option maxHeartbeats 1000000 in
theorem Sbc_c (a b : Int) (f : Fl) (h0 : 0 ≤ a) (h1 : a < 256) (h2 : 0 ≤ b) (h3 : b < 256) (w : World) :
    Calls Tryz.prog 92 #[.int .u8 a, .int .u8 b, .agg #[.bool f.n, .bool f.v, .bool f.d, .bool f.i, .bool f.z, .bool f.c]] w fun e w' => e = .returned (.tuple #[.int .u8 (sbcF a b f).1, .agg #[.bool ((sbcF a b f).2).n, .bool ((sbcF a b f).2).v, .bool ((sbcF a b f).2).d, .bool ((sbcF a b f).2).i, .bool ((sbcF a b f).2).z, .bool ((sbcF a b f).2).c]]) ∧ Below w.heap.size w w' := by
  have ho := oneB_le f.c
  have a1 := and240_eq a h0 h1
  have a2 := and240_eq b h2 h3
  have a3 := and15_eq a h0 h1
  have a4 := and15_eq b h2 h3
  have a5 := and15_i64 (a % 16 - b % 16 - 1 + oneB f.c - 6) (by omega) (by omega)
  have g1 : IntKind.u8.signed = false := rfl
  have g2 : IntKind.u8.max = 255 := rfl
  have g3 := not_eq b h2 h3
  obtain ⟨n, v, d, i, z, c⟩ := f
  cases d
  · clear a1 a2 a3 a4 a5
    go_enter Tryz.func92, Tryz.ntmps92
    go_wp2_with fail
    refine (Adc_c a (255 - b) ⟨n, v, false, i, z, c⟩ h0 h1 (by omega) (by omega) _).mono ?_
    rintro e w1 ⟨rfl, hb1⟩
    generalize hr : adcF a (255 - b) ⟨n, v, false, i, z, c⟩ = r at *
    have HR := Lib.hid hr
    have hB : Below w.heap.size w w1 := Dn.trans (Dn.al w _) (Dn.trans (Dn.al _ _) (Dn.trans (Dn.al _ _) hb1))
    have k0 := (((Bk.new w 26 #[.bool n, .bool v, .bool false, .bool i, .bool z, .bool c]).al (.cells #[.bool false, .bool false, .bool false, .bool false, .bool false, .bool false] 26)).al (.cells #[.bool n, .bool v, .bool false, .bool i, .bool z, .bool c] 26)).later hb1
    have k1 := ((Bk.new1 w (.cells #[.bool n, .bool v, .bool false, .bool i, .bool z, .bool c] 26) 26 #[.bool false, .bool false, .bool false, .bool false, .bool false, .bool false]).al (.cells #[.bool n, .bool v, .bool false, .bool i, .bool z, .bool c] 26)).later hb1
    clear hr hb1
    have kc0 := k0.cell
    have kc1 := k1.cell
    have kf1 := k1.frozen
    have l0 := k0.lt
    have l1 := k1.lt
    have l0' := Nat.le_of_lt l0
    clear k0 k1
    go_wp2_with (first | (go_at_call 105; refine (one_c _ _).mono ?_; rintro e w2 ⟨rfl, rfl⟩) | fail)
    all_goals go_region
    all_goals go_wp2
    all_goals
      have HR2 := HR.out
      refine bodyPost_ret (v := .tuple #[.int .u8 (r.1), .agg #[.bool r.2.n, .bool r.2.v, .bool false, .bool r.2.i, .bool r.2.z, .bool r.2.c]]) (by simp [results, Tryz.results92, go_sem, kc1, kf1, l1]) rfl ⟨by simp [sbcF, HR2, *], ?_⟩
      exact ((putF6 hB (Nat.le_succ _)).alloc (by simp; omega) _).drew
  by_cases t1 : (a % 16 - b % 16 - 1 + oneB c) < 0
  · by_cases t2 : a / 16 * 16 - b / 16 * 16 + (((a % 16 - b % 16 - 1 + oneB c) - 6) % 16 - 16) < 0
    · have T1 := Lib.hid t1
      have T2 := Lib.hid t2
      go_enter Tryz.func92, Tryz.ntmps92
      go_wp2_with fail
      refine (Adc_c a (255 - b) ⟨n, v, false, i, z, c⟩ h0 h1 (by omega) (by omega) _).mono ?_
      rintro e w1 ⟨rfl, hb1⟩
      generalize hr : adcF a (255 - b) ⟨n, v, false, i, z, c⟩ = r at *
      have HR := Lib.hid hr
      have hB : Below w.heap.size w w1 := Dn.trans (Dn.al w _) (Dn.trans (Dn.al _ _) (Dn.trans (Dn.al _ _) hb1))
      have k0 := (((Bk.new w 26 #[.bool n, .bool v, .bool true, .bool i, .bool z, .bool c]).al (.cells #[.bool false, .bool false, .bool false, .bool false, .bool false, .bool false] 26)).al (.cells #[.bool n, .bool v, .bool false, .bool i, .bool z, .bool c] 26)).later hb1
      have k1 := ((Bk.new1 w (.cells #[.bool n, .bool v, .bool true, .bool i, .bool z, .bool c] 26) 26 #[.bool false, .bool false, .bool false, .bool false, .bool false, .bool false]).al (.cells #[.bool n, .bool v, .bool false, .bool i, .bool z, .bool c] 26)).later hb1
      clear hr hb1
      have kc0 := k0.cell
      have kc1 := k1.cell
      have kf1 := k1.frozen
      have l0 := k0.lt
      have l1 := k1.lt
      have l0' := Nat.le_of_lt l0
      clear k0 k1
      go_wp2_with (first | (go_at_call 105; refine (one_c _ _).mono ?_; rintro e w2 ⟨rfl, rfl⟩) | fail)
      all_goals go_region
      all_goals go_wp2
      all_goals
        have HR2 := HR.out
        have q1 := T1.out
        have q2 := T2.out
        refine bodyPost_ret (v := .tuple #[.int .u8 ((a / 16 * 16 - b / 16 * 16 + (((a % 16 - b % 16 - 1 + oneB c) - 6) % 16 - 16) - 96) % 256), .agg #[.bool r.2.n, .bool r.2.v, .bool true, .bool r.2.i, .bool r.2.z, .bool r.2.c]]) (by simp [results, Tryz.results92, go_sem, kc1, kf1, l1]) rfl ⟨by simp [sbcF, HR2, q1, q2, *], ?_⟩
        exact ((putF6 hB (Nat.le_succ _)).alloc (by simp; omega) _).drew
    · have T1 := Lib.hid t1
      have T2 := Lib.hid t2
      simp only [Int.not_lt] at t2
      go_enter Tryz.func92, Tryz.ntmps92
      go_wp2_with fail
      refine (Adc_c a (255 - b) ⟨n, v, false, i, z, c⟩ h0 h1 (by omega) (by omega) _).mono ?_
      rintro e w1 ⟨rfl, hb1⟩
      generalize hr : adcF a (255 - b) ⟨n, v, false, i, z, c⟩ = r at *
      have HR := Lib.hid hr
      have hB : Below w.heap.size w w1 := Dn.trans (Dn.al w _) (Dn.trans (Dn.al _ _) (Dn.trans (Dn.al _ _) hb1))
      have k0 := (((Bk.new w 26 #[.bool n, .bool v, .bool true, .bool i, .bool z, .bool c]).al (.cells #[.bool false, .bool false, .bool false, .bool false, .bool false, .bool false] 26)).al (.cells #[.bool n, .bool v, .bool false, .bool i, .bool z, .bool c] 26)).later hb1
      have k1 := ((Bk.new1 w (.cells #[.bool n, .bool v, .bool true, .bool i, .bool z, .bool c] 26) 26 #[.bool false, .bool false, .bool false, .bool false, .bool false, .bool false]).al (.cells #[.bool n, .bool v, .bool false, .bool i, .bool z, .bool c] 26)).later hb1
      clear hr hb1
      have kc0 := k0.cell
      have kc1 := k1.cell
      have kf1 := k1.frozen
      have l0 := k0.lt
      have l1 := k1.lt
      have l0' := Nat.le_of_lt l0
      clear k0 k1
      go_wp2_with (first | (go_at_call 105; refine (one_c _ _).mono ?_; rintro e w2 ⟨rfl, rfl⟩) | fail)
      all_goals go_region
      all_goals go_wp2
      all_goals
        have HR2 := HR.out
        have q1 := T1.out
        have q2 := Int.not_lt.2 t2
        refine bodyPost_ret (v := .tuple #[.int .u8 (a / 16 * 16 - b / 16 * 16 + (((a % 16 - b % 16 - 1 + oneB c) - 6) % 16 - 16)), .agg #[.bool r.2.n, .bool r.2.v, .bool true, .bool r.2.i, .bool r.2.z, .bool r.2.c]]) (by simp [results, Tryz.results92, go_sem, kc1, kf1, l1]) rfl ⟨by (simp [sbcF, HR2, q1, q2, *]; omega), ?_⟩
        exact ((putF6 hB (Nat.le_succ _)).alloc (by simp; omega) _).drew
  · by_cases t2 : a / 16 * 16 - b / 16 * 16 + (a % 16 - b % 16 - 1 + oneB c) < 0
    · have T1 := Lib.hid t1
      have T2 := Lib.hid t2
      simp only [Int.not_lt] at t1
      go_enter Tryz.func92, Tryz.ntmps92
      go_wp2_with fail
      refine (Adc_c a (255 - b) ⟨n, v, false, i, z, c⟩ h0 h1 (by omega) (by omega) _).mono ?_
      rintro e w1 ⟨rfl, hb1⟩
      generalize hr : adcF a (255 - b) ⟨n, v, false, i, z, c⟩ = r at *
      have HR := Lib.hid hr
      have hB : Below w.heap.size w w1 := Dn.trans (Dn.al w _) (Dn.trans (Dn.al _ _) (Dn.trans (Dn.al _ _) hb1))
      have k0 := (((Bk.new w 26 #[.bool n, .bool v, .bool true, .bool i, .bool z, .bool c]).al (.cells #[.bool false, .bool false, .bool false, .bool false, .bool false, .bool false] 26)).al (.cells #[.bool n, .bool v, .bool false, .bool i, .bool z, .bool c] 26)).later hb1
      have k1 := ((Bk.new1 w (.cells #[.bool n, .bool v, .bool true, .bool i, .bool z, .bool c] 26) 26 #[.bool false, .bool false, .bool false, .bool false, .bool false, .bool false]).al (.cells #[.bool n, .bool v, .bool false, .bool i, .bool z, .bool c] 26)).later hb1
      clear hr hb1
      have kc0 := k0.cell
      have kc1 := k1.cell
      have kf1 := k1.frozen
      have l0 := k0.lt
      have l1 := k1.lt
      have l0' := Nat.le_of_lt l0
      clear k0 k1
      go_wp2_with (first | (go_at_call 105; refine (one_c _ _).mono ?_; rintro e w2 ⟨rfl, rfl⟩) | fail)
      all_goals go_region
      all_goals go_wp2
      all_goals
        have HR2 := HR.out
        have q1 := Int.not_lt.2 t1
        have q2 := T2.out
        refine bodyPost_ret (v := .tuple #[.int .u8 ((a / 16 * 16 - b / 16 * 16 + (a % 16 - b % 16 - 1 + oneB c) - 96) % 256), .agg #[.bool r.2.n, .bool r.2.v, .bool true, .bool r.2.i, .bool r.2.z, .bool r.2.c]]) (by simp [results, Tryz.results92, go_sem, kc1, kf1, l1]) rfl ⟨by simp [sbcF, HR2, q1, q2, *], ?_⟩
        exact ((putF6 hB (Nat.le_succ _)).alloc (by simp; omega) _).drew
    · have T1 := Lib.hid t1
      have T2 := Lib.hid t2
      simp only [Int.not_lt] at t1
      simp only [Int.not_lt] at t2
      go_enter Tryz.func92, Tryz.ntmps92
      go_wp2_with fail
      refine (Adc_c a (255 - b) ⟨n, v, false, i, z, c⟩ h0 h1 (by omega) (by omega) _).mono ?_
      rintro e w1 ⟨rfl, hb1⟩
      generalize hr : adcF a (255 - b) ⟨n, v, false, i, z, c⟩ = r at *
      have HR := Lib.hid hr
      have hB : Below w.heap.size w w1 := Dn.trans (Dn.al w _) (Dn.trans (Dn.al _ _) (Dn.trans (Dn.al _ _) hb1))
      have k0 := (((Bk.new w 26 #[.bool n, .bool v, .bool true, .bool i, .bool z, .bool c]).al (.cells #[.bool false, .bool false, .bool false, .bool false, .bool false, .bool false] 26)).al (.cells #[.bool n, .bool v, .bool false, .bool i, .bool z, .bool c] 26)).later hb1
      have k1 := ((Bk.new1 w (.cells #[.bool n, .bool v, .bool true, .bool i, .bool z, .bool c] 26) 26 #[.bool false, .bool false, .bool false, .bool false, .bool false, .bool false]).al (.cells #[.bool n, .bool v, .bool false, .bool i, .bool z, .bool c] 26)).later hb1
      clear hr hb1
      have kc0 := k0.cell
      have kc1 := k1.cell
      have kf1 := k1.frozen
      have l0 := k0.lt
      have l1 := k1.lt
      have l0' := Nat.le_of_lt l0
      clear k0 k1
      go_wp2_with (first | (go_at_call 105; refine (one_c _ _).mono ?_; rintro e w2 ⟨rfl, rfl⟩) | fail)
      all_goals go_region
      all_goals go_wp2
      all_goals
        have HR2 := HR.out
        have q1 := Int.not_lt.2 t1
        have q2 := Int.not_lt.2 t2
        refine bodyPost_ret (v := .tuple #[.int .u8 (a / 16 * 16 - b / 16 * 16 + (a % 16 - b % 16 - 1 + oneB c)), .agg #[.bool r.2.n, .bool r.2.v, .bool true, .bool r.2.i, .bool r.2.z, .bool r.2.c]]) (by simp [results, Tryz.results92, go_sem, kc1, kf1, l1]) rfl ⟨by (simp [sbcF, HR2, q1, q2, *]; omega), ?_⟩
        exact ((putF6 hB (Nat.le_succ _)).alloc (by simp; omega) _).drew
end Go.Proofs.YtemahcjglmhefaaGreatDoor
