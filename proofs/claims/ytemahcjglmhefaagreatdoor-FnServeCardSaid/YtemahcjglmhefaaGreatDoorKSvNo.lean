/- Serve where a memory is not right. No condition. -/
import Derived.Test.YtemahcjglmhefaaGreatDoorKSServe
import Derived.Test.YtemahcjglmhefaaGreatDoorKServe
namespace Go.Proofs.YtemahcjglmhefaaGreatDoor
set_option linter.unusedVariables false
set_option linter.unusedSimpArgs false
open Go.RowKit
attribute [local irreducible] World.setCell
set_option maxHeartbeats 1000000 in
set_option maxRecDepth 100000 in
theorem Serve_no (c : Cp) (A : Option Addr) (n cap : Nat) (hn : n ≤ 9223372036854775807) (hs : okSizeB n = false) (w : World) (nmi : Bool) :
    Calls Tryz.prog 7 #[.agg #[.int .u8 c.a, .int .u8 c.x, .int .u8 c.y, .int .u8 c.s, .int .u16 c.pc, .bool c.f.n, .bool c.f.v, .bool c.f.d, .bool c.f.i, .bool c.f.z, .bool c.f.c], .agg #[.slice A n cap], .bool nmi] w fun e w' => ∃ X k, e = .returned (.tuple #[.agg #[.int .u8 0, .int .u8 0, .int .u8 0, .int .u8 0, .int .u16 0, .bool false, .bool false, .bool false, .bool false, .bool false, .bool false], .agg #[.slice none 0 0], .slice X 0 k]) ∧ Below w.heap.size w w' := by
  have HS := Lib.hid hs
  clear hs
  go_enter Tryz.func7, Tryz.ntmps7
  go_wp2_with fail
  refine (RamOk_c _ _ _ hn _).mono ?_
  rintro e w1 ⟨rfl, hb1⟩
  rw [HS.out]
  have hB1 : Below w.heap.size w w1 := Dn.trans (Dn.al w _) (Dn.trans (Dn.al _ _) (Dn.trans (Dn.al _ _) (Dn.trans (Dn.al _ _) hb1)))
  have k2 := ((Bk.newK (W := (w.alloc (.cells #[.int .u8 c.a, .int .u8 c.x, .int .u8 c.y, .int .u8 c.s, .int .u16 c.pc, .bool c.f.n, .bool c.f.v, .bool c.f.d, .bool c.f.i, .bool c.f.z, .bool c.f.c] 28)).alloc (.cells #[.slice A n cap] 30)) (k := w.heap.size + 1 + 1) (by simp) 28 #[.int .u8 0, .int .u8 0, .int .u8 0, .int .u8 0, .int .u16 0, .bool false, .bool false, .bool false, .bool false, .bool false, .bool false]).al (.cells #[.slice none 0 0] 30)).later hb1
  have k3 := (Bk.newK (W := ((w.alloc (.cells #[.int .u8 c.a, .int .u8 c.x, .int .u8 c.y, .int .u8 c.s, .int .u16 c.pc, .bool c.f.n, .bool c.f.v, .bool c.f.d, .bool c.f.i, .bool c.f.z, .bool c.f.c] 28)).alloc (.cells #[.slice A n cap] 30)).alloc (.cells #[.int .u8 0, .int .u8 0, .int .u8 0, .int .u8 0, .int .u16 0, .bool false, .bool false, .bool false, .bool false, .bool false, .bool false] 28)) (k := w.heap.size + 1 + 1 + 1) (by simp) 30 #[.slice none 0 0]).later hb1
  have HB := Lib.hid hB1
  have hl3 := k3.lt
  have h2a : w.heap.size + 1 + 1 < w1.heap.size := by omega
  have c2 := k2.cell
  have c3 := k3.cell 0
  have f2 := k2.frozen
  have f3 := k3.frozen 0
  clear k2 k3 hB1 hb1
  go_wp2
  refine bodyPost_ret (v := .tuple #[.agg #[.int .u8 0, .int .u8 0, .int .u8 0, .int .u8 0, .int .u16 0, .bool false, .bool false, .bool false, .bool false, .bool false, .bool false], .agg #[.slice none 0 0], .slice none 0 0]) (by simp [results, Tryz.results7, go_sem, c2, c3]) rfl ⟨_, _, rfl, (below11 HB.out (by omega) _ _ _ _ _ _ _ _ _ _ _).setCell (p := ⟨w.heap.size + 1 + 1 + 1, 0, none⟩) (by show w.heap.size ≤ w.heap.size + 1 + 1 + 1; omega) _⟩
set_option maxHeartbeats 1000000 in
set_option maxRecDepth 100000 in
theorem sServe_no (c : Cp) (A : Option Addr) (n cap : Nat) (hn : n ≤ 9223372036854775807) (hs : okSizeB n = false) (w : World) (nmi : Bool) :
    Calls Tryz.prog 8 #[.agg #[.int .u8 c.a, .int .u8 c.x, .int .u8 c.y, .int .u8 c.s, .int .u16 c.pc, .bool c.f.n, .bool c.f.v, .bool c.f.d, .bool c.f.i, .bool c.f.z, .bool c.f.c], .agg #[.slice A n cap], .bool nmi] w fun e w' => ∃ X k, e = .returned (.tuple #[.agg #[.int .u8 0, .int .u8 0, .int .u8 0, .int .u8 0, .int .u16 0, .bool false, .bool false, .bool false, .bool false, .bool false, .bool false], .agg #[.slice none 0 0], .slice X 0 k]) ∧ Below w.heap.size w w' := by
  have HS := Lib.hid hs
  clear hs
  go_enter Tryz.func8, Tryz.ntmps8
  go_wp2_with fail
  refine (sRamOk_c _ _ _ hn _).mono ?_
  rintro e w1 ⟨rfl, hb1⟩
  rw [HS.out]
  have hB1 : Below w.heap.size w w1 := Dn.trans (Dn.al w _) (Dn.trans (Dn.al _ _) (Dn.trans (Dn.al _ _) (Dn.trans (Dn.al _ _) hb1)))
  have k2 := ((Bk.newK (W := (w.alloc (.cells #[.int .u8 c.a, .int .u8 c.x, .int .u8 c.y, .int .u8 c.s, .int .u16 c.pc, .bool c.f.n, .bool c.f.v, .bool c.f.d, .bool c.f.i, .bool c.f.z, .bool c.f.c] 28)).alloc (.cells #[.slice A n cap] 30)) (k := w.heap.size + 1 + 1) (by simp) 28 #[.int .u8 0, .int .u8 0, .int .u8 0, .int .u8 0, .int .u16 0, .bool false, .bool false, .bool false, .bool false, .bool false, .bool false]).al (.cells #[.slice none 0 0] 30)).later hb1
  have k3 := (Bk.newK (W := ((w.alloc (.cells #[.int .u8 c.a, .int .u8 c.x, .int .u8 c.y, .int .u8 c.s, .int .u16 c.pc, .bool c.f.n, .bool c.f.v, .bool c.f.d, .bool c.f.i, .bool c.f.z, .bool c.f.c] 28)).alloc (.cells #[.slice A n cap] 30)).alloc (.cells #[.int .u8 0, .int .u8 0, .int .u8 0, .int .u8 0, .int .u16 0, .bool false, .bool false, .bool false, .bool false, .bool false, .bool false] 28)) (k := w.heap.size + 1 + 1 + 1) (by simp) 30 #[.slice none 0 0]).later hb1
  have HB := Lib.hid hB1
  have hl3 := k3.lt
  have h2a : w.heap.size + 1 + 1 < w1.heap.size := by omega
  have c2 := k2.cell
  have c3 := k3.cell 0
  have f2 := k2.frozen
  have f3 := k3.frozen 0
  have r2 := (k2.put11 (.int .u8 0) (.int .u8 0) (.int .u8 0) (.int .u8 0) (.int .u16 0) (.bool false) (.bool false) (.bool false) (.bool false) (.bool false) (.bool false)).far (p := ⟨w.heap.size + 1 + 1 + 1, 0, none⟩) (by show w.heap.size + 1 + 1 ≠ w.heap.size + 1 + 1 + 1; omega) (.slice none 0 0)
  have r3 : Bk ((((((((((((w1.setCell ⟨w.heap.size + 1 + 1, 0, none⟩ (.int .u8 0)).setCell ⟨w.heap.size + 1 + 1, 1, none⟩ (.int .u8 0)).setCell ⟨w.heap.size + 1 + 1, 2, none⟩ (.int .u8 0)).setCell ⟨w.heap.size + 1 + 1, 3, none⟩ (.int .u8 0)).setCell ⟨w.heap.size + 1 + 1, 4, none⟩ (.int .u16 0)).setCell ⟨w.heap.size + 1 + 1, 5, none⟩ (.bool false)).setCell ⟨w.heap.size + 1 + 1, 6, none⟩ (.bool false)).setCell ⟨w.heap.size + 1 + 1, 7, none⟩ (.bool false)).setCell ⟨w.heap.size + 1 + 1, 8, none⟩ (.bool false)).setCell ⟨w.heap.size + 1 + 1, 9, none⟩ (.bool false)).setCell ⟨w.heap.size + 1 + 1, 10, none⟩ (.bool false)).setCell ⟨w.heap.size + 1 + 1 + 1, 0, none⟩ (.slice none 0 0)) (w.heap.size + 1 + 1 + 1) 30 #[.slice none 0 0] := (k3.far11 (k := w.heap.size + 1 + 1) (by omega) (.int .u8 0) (.int .u8 0) (.int .u8 0) (.int .u8 0) (.int .u16 0) (.bool false) (.bool false) (.bool false) (.bool false) (.bool false) (.bool false)).put 0 (.slice none 0 0)
  have HB2 := Lib.hid ((below11 HB.out (show w.heap.size ≤ w.heap.size + 1 + 1 by omega) (.int .u8 0) (.int .u8 0) (.int .u8 0) (.int .u8 0) (.int .u16 0) (.bool false) (.bool false) (.bool false) (.bool false) (.bool false) (.bool false)).setCell (p := ⟨w.heap.size + 1 + 1 + 1, 0, none⟩) (by show w.heap.size ≤ w.heap.size + 1 + 1 + 1; omega) (.slice none 0 0))
  clear k2 k3 hB1 hb1
  go_wp2
  generalize ((((((((((((w1.setCell ⟨w.heap.size + 1 + 1, 0, none⟩ (.int .u8 0)).setCell ⟨w.heap.size + 1 + 1, 1, none⟩ (.int .u8 0)).setCell ⟨w.heap.size + 1 + 1, 2, none⟩ (.int .u8 0)).setCell ⟨w.heap.size + 1 + 1, 3, none⟩ (.int .u8 0)).setCell ⟨w.heap.size + 1 + 1, 4, none⟩ (.int .u16 0)).setCell ⟨w.heap.size + 1 + 1, 5, none⟩ (.bool false)).setCell ⟨w.heap.size + 1 + 1, 6, none⟩ (.bool false)).setCell ⟨w.heap.size + 1 + 1, 7, none⟩ (.bool false)).setCell ⟨w.heap.size + 1 + 1, 8, none⟩ (.bool false)).setCell ⟨w.heap.size + 1 + 1, 9, none⟩ (.bool false)).setCell ⟨w.heap.size + 1 + 1, 10, none⟩ (.bool false)).setCell ⟨w.heap.size + 1 + 1 + 1, 0, none⟩ (.slice none 0 0)) = w2 at *
  have d2 := (r2.al (.cells #[] 44)).cell
  have d3 := (r3.al (.cells #[] 44)).cell 0
  clear c2 c3 f2 f3
  refine bodyPost_ret (v := .tuple #[.agg #[.int .u8 0, .int .u8 0, .int .u8 0, .int .u8 0, .int .u16 0, .bool false, .bool false, .bool false, .bool false, .bool false, .bool false], .agg #[.slice none 0 0], .slice (some ⟨w1.heap.size, 0, none⟩) 0 0]) (by simp [results, Tryz.results8, go_sem, d2, d3]) rfl ⟨_, _, rfl, Bl.al HB2.out (Nat.le_refl _) _⟩
end Go.Proofs.YtemahcjglmhefaaGreatDoor
