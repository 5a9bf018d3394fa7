/- The draw of an interrupt. No condition. -/
import Derived.Test.YtemahcjglmhefaaGreatDoorKCur6
namespace Go.Proofs.YtemahcjglmhefaaGreatDoor
set_option linter.unusedVariables false
set_option linter.unusedSimpArgs false
open Go.RowKit
attribute [local irreducible] World.setCell
set_option maxHeartbeats 2000000 in
set_option maxRecDepth 100000 in
theorem DrawServe_c (A : Option Addr) (n cap : Nat) (xs : List Int) (w : World) (hr : Rds w .u8 A n xs) (hb : Byt xs) (hn : n ≤ 1048576) :
    Calls Tryz.prog 6 #[.slice A n cap] w fun e w' => ∃ c v ys, ∃ x : Bool, Cp.ok c ∧ e = .returned (.tuple #[.agg #[.int .u8 c.a, .int .u8 c.x, .int .u8 c.y, .int .u8 c.s, .int .u16 c.pc, .bool c.f.n, .bool c.f.v, .bool c.f.d, .bool c.f.i, .bool c.f.z, .bool c.f.c], .agg #[v], .bool x]) ∧ MemOut w v ys w' := by
  go_enter Tryz.func6, Tryz.ntmps6
  go_wp2_with fail
  have hba : Below w.heap.size w ((w.alloc (.cells #[.int .u8 0, .int .u8 0, .int .u8 0, .int .u8 0, .int .u16 0, .bool false, .bool false, .bool false, .bool false, .bool false, .bool false] 28)).alloc (.cells #[.slice none 0 0] 30)) := Dn.trans (Dn.al w _) (Dn.al _ _)
  have k0 := (Bk.new w 28 #[.int .u8 0, .int .u8 0, .int .u8 0, .int .u8 0, .int .u16 0, .bool false, .bool false, .bool false, .bool false, .bool false, .bool false]).al (.cells #[.slice none 0 0] 30)
  have k1 := Bk.new1 w (.cells #[.int .u8 0, .int .u8 0, .int .u8 0, .int .u8 0, .int .u16 0, .bool false, .bool false, .bool false, .bool false, .bool false, .bool false] 28) 30 #[.slice none 0 0]
  have hsz : ((w.alloc (.cells #[.int .u8 0, .int .u8 0, .int .u8 0, .int .u8 0, .int .u16 0, .bool false, .bool false, .bool false, .bool false, .bool false, .bool false] 28)).alloc (.cells #[.slice none 0 0] 30)).heap.size = w.heap.size + 2 := by simp
  have HSZ := Lib.hid hsz
  refine (l01New_c A n cap xs _ (hr.later hba) hb hn).mono ?_
  clear hsz
  rintro e w1 ⟨cb, rfl, hc1⟩
  have hcb : w.heap.size + 2 ≤ cb := by have := hc1.lo; have := HSZ.out; omega
  have K0 := Lib.hid (k0.later hc1.bel)
  have K1 := Lib.hid (k1.later hc1.bel)
  have HA := Lib.hid hba
  clear k0 k1 hba
  generalize (w.alloc (.cells #[.int .u8 0, .int .u8 0, .int .u8 0, .int .u8 0, .int .u16 0, .bool false, .bool false, .bool false, .bool false, .bool false, .bool false] 28)).alloc (.cells #[.slice none 0 0] 30) = wa at *
  go_wp2_with fail
  refine (l06Small_c wa A n cap xs cb _ hc1).mono ?_
  rintro e w2 ⟨c, v, ys, hok, hs, hby, rfl, hown, hc2⟩
  obtain ⟨vA, vc, rfl⟩ := own_shape hown
  have hy8 : ys.length ≤ 8192 := by unfold okSize at hs; omega
  have hl1 := hc1.top
  have K2 := Lib.hid (K0.out.grown hc2.2 (by intro e; injection e; omega))
  have K3 := Lib.hid (K1.out.grown hc2.2 (by intro e; injection e; omega))
  have hl2 := hc2.size
  have HW2 := Lib.hid hown
  have hcl := hc2.1.lt
  clear hown K0 K1 hs
  go_wp2_with fail
  have hba : Below w2.heap.size w2 ((w2.alloc (.cells #[.int .u8 c.a, .int .u8 c.x, .int .u8 c.y, .int .u8 c.s, .int .u16 c.pc, .bool c.f.n, .bool c.f.v, .bool c.f.d, .bool c.f.i, .bool c.f.z, .bool c.f.c] 28)).alloc (.cells #[.slice vA ys.length vc] 30)) := Dn.trans (Dn.al w2 _) (Dn.al _ _)
  refine (l01Once_c wa A n cap xs cb _ (hc2.then_ hba).1 20 (by omega) (by omega)).mono ?_
  rintro e w3 ⟨x, rfl, hc3⟩
  have kp := ((Bk.new w2 28 #[.int .u8 c.a, .int .u8 c.x, .int .u8 c.y, .int .u8 c.s, .int .u16 c.pc, .bool c.f.n, .bool c.f.v, .bool c.f.d, .bool c.f.i, .bool c.f.z, .bool c.f.c]).al (.cells #[.slice vA ys.length vc] 30)).grown hc3.2 (by intro e; injection e; omega)
  have kr := (Bk.new1 w2 (.cells #[.int .u8 c.a, .int .u8 c.x, .int .u8 c.y, .int .u8 c.s, .int .u16 c.pc, .bool c.f.n, .bool c.f.v, .bool c.f.d, .bool c.f.i, .bool c.f.z, .bool c.f.c] 28) 30 #[.slice vA ys.length vc]).grown hc3.2 (by intro e; injection e; omega)
  have K4 := Lib.hid ((K2.out.later hba).grown hc3.2 (by intro e; injection e; omega))
  have K5 := Lib.hid ((K3.out.later hba).grown hc3.2 (by intro e; injection e; omega))
  have HW3 := Lib.hid (own_curOut hc1 (own_later HW2.out hba) hc3 (Nat.le_trans hl2 hba.size))
  have HO3 := Lib.hid ((hc2.then_ hba).trans hc3)
  clear HW2 K2 K3 hc2 hc3 hba
  generalize w2.heap.size = pb at *
  have cr0 := kr.cell 0
  have fr0 := kr.frozen 0
  go_wp2_with fail
  · refine (l05Any_c wa A n cap xs cb _ HO3.out.1).mono ?_
    rintro e w4 ⟨u, zs, hl, hbl, rfl, hown4, hc4⟩
    obtain ⟨uA, uc, rfl⟩ := own_shape hown4
    have kr4 := kr.grown hc4.2 (by intro e; injection e; omega)
    have c4 := kr4.cell 0
    have f4 := kr4.frozen 0
    have hg4 : some (pb + 1) ≠ (Value.slice uA zs.length uc).ownBlock := own_apart hown4 kr4 (by decide)
    have KP := Lib.hid ((kp.grown hc4.2 (by intro e; injection e; omega)).far (p := ⟨pb + 1, 0, none⟩) (by simp) (.slice uA zs.length uc))
    have KR := Lib.hid (kr4.put 0 (.slice uA zs.length uc))
    have K4' := Lib.hid ((K4.out.grown hc4.2 (by intro e; injection e; omega)).far (p := ⟨pb + 1, 0, none⟩) (by simp; omega) (.slice uA zs.length uc))
    have K5' := Lib.hid ((K5.out.grown hc4.2 (by intro e; injection e; omega)).far (p := ⟨pb + 1, 0, none⟩) (by simp; omega) (.slice uA zs.length uc))
    have HW4 := Lib.hid (own_far (p := ⟨pb + 1, 0, none⟩) (own_more hown4 (b2 := w1.heap.size) HO3.out.size) hg4 (.slice uA zs.length uc))
    have HO4 := Lib.hid (CurOut.put (HO3.out.trans hc4) hc1 (g := pb + 1) (by omega) 0 (.slice uA zs.length uc))
    clear hown4 hc4 HO3 kp kr K4 K5 HW3 cr0 fr0 hy8 hby
    rename Hid (Bk _ _ 30 #[.slice none 0 0]) => K5
    rename Hid (Bk _ _ 28 #[.int .u8 0, .int .u8 0, .int .u8 0, .int .u8 0, .int .u16 0, .bool false, .bool false, .bool false, .bool false, .bool false, .bool false]) => K4
    rename Byt zs => hby
    rename zs.length ≤ 8192 => hy8
    rename List Int => ys
    rename Option Addr => vA
    rename Nat => vc
    go_wp2_with fail
    generalize w4.setCell ⟨pb + 1, 0, none⟩ (.slice vA ys.length vc) = w5 at *
    clear kr4 c4 f4 hg4
    have n1 : w.heap.size ≠ pb := by omega
    have n2 : pb ≠ w.heap.size := by omega
    have n3 : w.heap.size + 1 ≠ pb := by omega
    have n4 : pb ≠ w.heap.size + 1 := by omega
    have n5 : w.heap.size ≠ pb + 1 := by omega
    have n6 : pb + 1 ≠ w.heap.size := by omega
    have cp0 := KP.out.cell
    have cr0 := KR.out.cell 0
    go_region_held3 (fun w' => (∀ i, w'.cell? ⟨pb, i, none⟩ = (#[.int .u8 c.a, .int .u8 c.x, .int .u8 c.y, .int .u8 c.s, .int .u16 c.pc, .bool c.f.n, .bool c.f.v, .bool c.f.d, .bool c.f.i, .bool c.f.z, .bool c.f.c] : Array Value)[i]?) ∧ w'.cell? ⟨pb + 1, 0, none⟩ = some (.slice vA ys.length vc)) (first | exact ⟨cp0, cr0⟩ | exact ⟨kp6.cell, kr6.cell 0⟩ | exact ⟨fun i => by simp [World.cell?_setCell_other, n1, n2, n3, n4, kp6.cell], by simp [World.cell?_setCell_other, n1, n2, n3, n4, n5, n6, kr6.cell]⟩) (first | (go_at_call 19; refine (l01Once_c wa A n cap xs cb _ (HO4.out.then_ (Dn.drew w5)).1 2 (by omega) (by omega)).mono ?_; rintro e w6 ⟨x, rfl, hc6⟩; have kp6 := KP.out.drew.grown hc6.2 (by intro e; injection e; omega); have kr6 := KR.out.drew.grown hc6.2 (by intro e; injection e; omega); have q4 := K4.out.drew.grown hc6.2 (by intro e; injection e; omega); have q5 := K5.out.drew.grown hc6.2 (by intro e; injection e; omega); have z4 := q4.cell; have z5 := q5.cell 0; have y4 := q4.frozen; have y5 := q5.frozen 0; have HW6 := Lib.hid (own_more (own_curOut hc1 (own_later HW4.out (Dn.drew w5)) hc6 HO4.out.size) (b2 := w.heap.size) (by have := HSZ.out; omega))))
    rename_i hHeld
    clear hHeld
    have e4 := own_apart HW6.out q4 (by decide)
    have e5 := own_apart HW6.out q5 (by decide)
    have HB := Lib.hid (Dn.trans HA.out hc6.1.bel)
    clear hc6 HO4 hc1 cp0 cr0 kp6 kr6
    go_wp2
    refine bodyPost_ret (v := .tuple #[.agg #[.int .u8 c.a, .int .u8 c.x, .int .u8 c.y, .int .u8 c.s, .int .u16 c.pc, .bool c.f.n, .bool c.f.v, .bool c.f.d, .bool c.f.i, .bool c.f.z, .bool c.f.c], .agg #[.slice vA ys.length vc], .bool x]) (by simp [results, Tryz.results6, go_sem, z4, z5]) rfl ⟨c, _, ys, x, hok, rfl, hy8, hby, own_far (p := ⟨w.heap.size + 1, 0, none⟩) (own_far11 HW6.out e4 _ _ _ _ _ _ _ _ _ _ _) e5 _, ((below11 HB.out (Nat.le_refl _) _ _ _ _ _ _ _ _ _ _ _).setCell (p := ⟨w.heap.size + 1, 0, none⟩) (Nat.le_succ _) _)⟩
  · have KP := Lib.hid kp
    have KR := Lib.hid kr
    have HW4 := Lib.hid HW3.out
    have HO4 := Lib.hid HO3.out
    clear kp kr HW3 HO3 cr0 fr0
    have n1 : w.heap.size ≠ pb := by omega
    have n2 : pb ≠ w.heap.size := by omega
    have n3 : w.heap.size + 1 ≠ pb := by omega
    have n4 : pb ≠ w.heap.size + 1 := by omega
    have n5 : w.heap.size ≠ pb + 1 := by omega
    have n6 : pb + 1 ≠ w.heap.size := by omega
    have cp0 := KP.out.cell
    have cr0 := KR.out.cell 0
    go_region_held3 (fun w' => (∀ i, w'.cell? ⟨pb, i, none⟩ = (#[.int .u8 c.a, .int .u8 c.x, .int .u8 c.y, .int .u8 c.s, .int .u16 c.pc, .bool c.f.n, .bool c.f.v, .bool c.f.d, .bool c.f.i, .bool c.f.z, .bool c.f.c] : Array Value)[i]?) ∧ w'.cell? ⟨pb + 1, 0, none⟩ = some (.slice vA ys.length vc)) (first | exact ⟨cp0, cr0⟩ | exact ⟨kp6.cell, kr6.cell 0⟩ | exact ⟨fun i => by simp [World.cell?_setCell_other, n1, n2, n3, n4, kp6.cell], by simp [World.cell?_setCell_other, n1, n2, n3, n4, n5, n6, kr6.cell]⟩) (first | (go_at_call 19; refine (l01Once_c wa A n cap xs cb _ (HO4.out.then_ (Dn.drew w3)).1 2 (by omega) (by omega)).mono ?_; rintro e w6 ⟨x, rfl, hc6⟩; have kp6 := KP.out.drew.grown hc6.2 (by intro e; injection e; omega); have kr6 := KR.out.drew.grown hc6.2 (by intro e; injection e; omega); have q4 := K4.out.drew.grown hc6.2 (by intro e; injection e; omega); have q5 := K5.out.drew.grown hc6.2 (by intro e; injection e; omega); have z4 := q4.cell; have z5 := q5.cell 0; have y4 := q4.frozen; have y5 := q5.frozen 0; have HW6 := Lib.hid (own_more (own_curOut hc1 (own_later HW4.out (Dn.drew w3)) hc6 HO4.out.size) (b2 := w.heap.size) (by have := HSZ.out; omega))))
    rename_i hHeld
    clear hHeld
    have e4 := own_apart HW6.out q4 (by decide)
    have e5 := own_apart HW6.out q5 (by decide)
    have HB := Lib.hid (Dn.trans HA.out hc6.1.bel)
    clear hc6 HO4 hc1 cp0 cr0 kp6 kr6
    go_wp2
    refine bodyPost_ret (v := .tuple #[.agg #[.int .u8 c.a, .int .u8 c.x, .int .u8 c.y, .int .u8 c.s, .int .u16 c.pc, .bool c.f.n, .bool c.f.v, .bool c.f.d, .bool c.f.i, .bool c.f.z, .bool c.f.c], .agg #[.slice vA ys.length vc], .bool x]) (by simp [results, Tryz.results6, go_sem, z4, z5]) rfl ⟨c, _, ys, x, hok, rfl, hy8, hby, own_far (p := ⟨w.heap.size + 1, 0, none⟩) (own_far11 HW6.out e4 _ _ _ _ _ _ _ _ _ _ _) e5 _, ((below11 HB.out (Nat.le_refl _) _ _ _ _ _ _ _ _ _ _ _).setCell (p := ⟨w.heap.size + 1, 0, none⟩) (Nat.le_succ _) _)⟩
end Go.Proofs.YtemahcjglmhefaaGreatDoor
