/- What is known of a whole processor. No condition. -/
import Derived.Test.YtemahcjglmhefaaGreatDoorKSBus
import Derived.Test.YtemahcjglmhefaaGreatDoorKServe
namespace Go.Proofs.YtemahcjglmhefaaGreatDoor
set_option linter.unusedVariables false
set_option linter.unusedSimpArgs false
open Go.RowKit
attribute [local irreducible] World.setCell
set_option maxHeartbeats 2000000 in
set_option maxRecDepth 100000 in
theorem sOf_c (x0 x1 x2 x3 x4 x5 x6 x7 x8 x9 x10 : Int) (lb : Nat) (w : World) (hk : Bk w lb 3 #[.int .i64 x0, .int .i64 x1, .int .i64 x2, .int .i64 x3, .int .i64 x4, .int .i64 x5, .int .i64 x6, .int .i64 x7, .int .i64 x8, .int .i64 x9, .int .i64 x10]) :
    Calls Tryz.prog 34 #[.slice (some ⟨lb, 0, none⟩) 11 11] w fun e w' => e = .returned (.agg #[.int .i64 x0, .int .i64 x1, .int .i64 x2, .int .i64 x3, .int .i64 x4, .int .i64 x5, .int .i64 x6, .int .i64 x7, .int .i64 x8, .int .i64 x9, .int .i64 x10]) ∧ Below w.heap.size w w' := by
  have c := (hk.al (.cells #[.int .i64 0, .int .i64 0, .int .i64 0, .int .i64 0, .int .i64 0, .int .i64 0, .int .i64 0, .int .i64 0, .int .i64 0, .int .i64 0, .int .i64 0] 46)).cell
  have HK := Lib.hid hk
  clear hk
  go_enter Tryz.func34, Tryz.ntmps34
  go_wp2_with fail
  go_region_held3 (fun w' => ∀ i, w'.cell? ⟨lb, i, none⟩ = (#[.int .i64 x0, .int .i64 x1, .int .i64 x2, .int .i64 x3, .int .i64 x4, .int .i64 x5, .int .i64 x6, .int .i64 x7, .int .i64 x8, .int .i64 x9, .int .i64 x10] : Array Value)[i]?) (first | exact c | exact fun i => (HK.out.al _).cell i) (fail)
  rename_i hHeld
  clear hHeld
  go_wp2
  refine bodyPost_ret (v := .agg #[.int .i64 x0, .int .i64 x1, .int .i64 x2, .int .i64 x3, .int .i64 x4, .int .i64 x5, .int .i64 x6, .int .i64 x7, .int .i64 x8, .int .i64 x9, .int .i64 x10]) (by simp [results, Tryz.results34, go_sem]) rfl ⟨rfl, Dn.trans (Dn.al w _) (Dn.drew _)⟩
set_option maxHeartbeats 2000000 in
set_option maxRecDepth 100000 in
theorem sKnowOf_c (c : Cp) (hok : c.ok) (w : World) :
    Calls Tryz.prog 16 #[.agg #[.int .u8 c.a, .int .u8 c.x, .int .u8 c.y, .int .u8 c.s, .int .u16 c.pc, .bool c.f.n, .bool c.f.v, .bool c.f.d, .bool c.f.i, .bool c.f.z, .bool c.f.c]] w fun e w' => e = .returned (.agg #[.int .i64 c.a, .int .i64 c.x, .int .i64 c.y, .int .i64 c.s, .int .i64 c.pc, .int .i64 (oneB c.f.n), .int .i64 (oneB c.f.v), .int .i64 (oneB c.f.d), .int .i64 (oneB c.f.i), .int .i64 (oneB c.f.z), .int .i64 (oneB c.f.c)]) ∧ Below w.heap.size w w' := by
  have hb : (0 ≤ c.a ∧ c.a < 256) ∧ (0 ≤ c.x ∧ c.x < 256) ∧ (0 ≤ c.y ∧ c.y < 256) ∧ (0 ≤ c.s ∧ c.s < 256) ∧ (0 ≤ c.pc ∧ c.pc < 65536) := hok
  obtain ⟨b0, b1, b2, b3, b4⟩ := hb
  have kp := ((Bk.new w 28 #[.int .u8 c.a, .int .u8 c.x, .int .u8 c.y, .int .u8 c.s, .int .u16 c.pc, .bool c.f.n, .bool c.f.v, .bool c.f.d, .bool c.f.i, .bool c.f.z, .bool c.f.c]).al (.cells #[.int .i64 0, .int .i64 0, .int .i64 0, .int .i64 0, .int .i64 0, .int .i64 0, .int .i64 0, .int .i64 0, .int .i64 0, .int .i64 0, .int .i64 0] 46)).al (.cells #[.bool c.f.n, .bool c.f.v, .bool c.f.d, .bool c.f.i, .bool c.f.z, .bool c.f.c] 26)
  have kz := (Bk.new1 w (.cells #[.int .u8 c.a, .int .u8 c.x, .int .u8 c.y, .int .u8 c.s, .int .u16 c.pc, .bool c.f.n, .bool c.f.v, .bool c.f.d, .bool c.f.i, .bool c.f.z, .bool c.f.c] 28) 46 #[.int .i64 0, .int .i64 0, .int .i64 0, .int .i64 0, .int .i64 0, .int .i64 0, .int .i64 0, .int .i64 0, .int .i64 0, .int .i64 0, .int .i64 0]).al (.cells #[.bool c.f.n, .bool c.f.v, .bool c.f.d, .bool c.f.i, .bool c.f.z, .bool c.f.c] 26)
  have kf := Bk.newK (W := (w.alloc (.cells #[.int .u8 c.a, .int .u8 c.x, .int .u8 c.y, .int .u8 c.s, .int .u16 c.pc, .bool c.f.n, .bool c.f.v, .bool c.f.d, .bool c.f.i, .bool c.f.z, .bool c.f.c] 28)).alloc (.cells #[.int .i64 0, .int .i64 0, .int .i64 0, .int .i64 0, .int .i64 0, .int .i64 0, .int .i64 0, .int .i64 0, .int .i64 0, .int .i64 0, .int .i64 0] 46)) (k := w.heap.size + 1 + 1) (by simp) 26 #[.bool c.f.n, .bool c.f.v, .bool c.f.d, .bool c.f.i, .bool c.f.z, .bool c.f.c]
  have HB : Hid (Below w.heap.size w (((w.alloc (.cells #[.int .u8 c.a, .int .u8 c.x, .int .u8 c.y, .int .u8 c.s, .int .u16 c.pc, .bool c.f.n, .bool c.f.v, .bool c.f.d, .bool c.f.i, .bool c.f.z, .bool c.f.c] 28)).alloc (.cells #[.int .i64 0, .int .i64 0, .int .i64 0, .int .i64 0, .int .i64 0, .int .i64 0, .int .i64 0, .int .i64 0, .int .i64 0, .int .i64 0, .int .i64 0] 46)).alloc (.cells #[.bool c.f.n, .bool c.f.v, .bool c.f.d, .bool c.f.i, .bool c.f.z, .bool c.f.c] 26))) := Lib.hid (Dn.trans (Dn.al w _) (Dn.trans (Dn.al _ _) (Dn.al _ _)))
  go_enter Tryz.func16, Tryz.ntmps16
  go_wp2_with fail
  generalize ((w.alloc (.cells #[.int .u8 c.a, .int .u8 c.x, .int .u8 c.y, .int .u8 c.s, .int .u16 c.pc, .bool c.f.n, .bool c.f.v, .bool c.f.d, .bool c.f.i, .bool c.f.z, .bool c.f.c] 28)).alloc (.cells #[.int .i64 0, .int .i64 0, .int .i64 0, .int .i64 0, .int .i64 0, .int .i64 0, .int .i64 0, .int .i64 0, .int .i64 0, .int .i64 0, .int .i64 0] 46)).alloc (.cells #[.bool c.f.n, .bool c.f.v, .bool c.f.d, .bool c.f.i, .bool c.f.z, .bool c.f.c] 26) = wa at *
  have cp := kp.cell
  have cf := kf.cell
  go_region_held3 (fun w' => (∀ i, w'.cell? ⟨w.heap.size, i, none⟩ = (#[.int .u8 c.a, .int .u8 c.x, .int .u8 c.y, .int .u8 c.s, .int .u16 c.pc, .bool c.f.n, .bool c.f.v, .bool c.f.d, .bool c.f.i, .bool c.f.z, .bool c.f.c] : Array Value)[i]?) ∧ ∀ i, w'.cell? ⟨w.heap.size + 1 + 1, i, none⟩ = (#[.bool c.f.n, .bool c.f.v, .bool c.f.d, .bool c.f.i, .bool c.f.z, .bool c.f.c] : Array Value)[i]?) (first | exact ⟨cp, cf⟩ | exact ⟨(kp.al _).cell, (kf.al _).cell⟩ | exact ⟨kp2.cell, kf2.cell⟩ | exact ⟨fun i => by simp [World.cell?_setCell_other, kp2.cell], fun i => by simp [World.cell?_setCell_other, kf2.cell]⟩) (first | (go_at_call 35; refine (l02Bit_c _ _ _).mono ?_; rintro e w' ⟨rfl, hw⟩; rw [hw, Int.mul_one]; clear hw) | (go_at_call 34; rw [wrap64_in c.a (by omega) (by omega), wrap64_in c.x (by omega) (by omega), wrap64_in c.y (by omega) (by omega), wrap64_in c.s (by omega) (by omega), wrap64_in c.pc (by omega) (by omega)]; refine (sOf_c c.a c.x c.y c.s c.pc (oneB c.f.n) (oneB c.f.v) (oneB c.f.d) (oneB c.f.i) (oneB c.f.z) (oneB c.f.c) wa.heap.size _ (Bk.new wa _ _).drew).mono ?_; rintro e w2 ⟨rfl, hb2⟩; have kp2 := (kp.al _).drew.later hb2; have kf2 := (kf.al _).drew.later hb2; have kz2 := (kz.al _).drew.later hb2; have cz := kz2.cell; have fz := kz2.frozen))
  rename_i hHeld
  clear hHeld
  have HB2 := Lib.hid (HB.out.trans ((Dn.trans (Dn.al wa _) (Dn.trans (Dn.drew _) hb2)).mono HB.out.size))
  clear hb2 kp2 kf2 kp kz kf cp cf
  go_wp2
  refine bodyPost_ret (v := .agg #[.int .i64 c.a, .int .i64 c.x, .int .i64 c.y, .int .i64 c.s, .int .i64 c.pc, .int .i64 (oneB c.f.n), .int .i64 (oneB c.f.v), .int .i64 (oneB c.f.d), .int .i64 (oneB c.f.i), .int .i64 (oneB c.f.z), .int .i64 (oneB c.f.c)]) (by simp [results, Tryz.results16, go_sem, cz]) rfl ⟨rfl, ?_⟩
  exact below11 HB2.out (Nat.le_succ _) _ _ _ _ _ _ _ _ _ _ _
end Go.Proofs.YtemahcjglmhefaaGreatDoor
