/- Draws of a machine; the cursor made. No condition. The draw of a machine, right or not. No condition. -/
import Derived.Test.YtemahcjglmhefaaGreatDoorKFill
import Derived.Test.YtemahcjglmhefaaGreatDoorKServe
namespace Go.Proofs.YtemahcjglmhefaaGreatDoor
set_option linter.unusedVariables false
set_option linter.unusedSimpArgs false
open Go.RowKit
attribute [local irreducible] World.setCell
set_option maxHeartbeats 1000000 in
set_option maxRecDepth 100000 in
theorem l01New_c (A : Option Addr) (n cap : Nat) (xs : List Int) (w : World) (hr : Rds w .u8 A n xs) (hb : Byt xs) (hn : n ≤ 1048576) :
    Calls Tryz.prog 17 #[.slice A n cap] w fun e w' => ∃ cb, e = .returned (.pointer (some ⟨cb, 0, none⟩)) ∧ Cur w A n cap xs cb w' := by
  have HR := Lib.hid hr
  go_enter Tryz.func17, Tryz.ntmps17
  go_wp2_with fail
  go_loop [3, 4] (fun h i => ∃ k : Nat, k ≤ n ∧ i = .int .i64 k ∧ ∃ q : Int, h = .int .i64 q) (fun _ i => n - (intOf i).toNat)
  case atStart => exact ⟨0, Nat.zero_le _, rfl, _, rfl⟩
  case round =>
    obtain ⟨k, hk, rfl, q, rfl⟩ := hrel
    by_cases hlt : k < n
    · obtain ⟨ad, rfl, hc⟩ := hr.at_ k (by omega) (by omega)
      have hx := hb.rd k
      simp only [Int.toNat_natCast] at hc
      generalize rd xs k = x at *
      clear hr
      go_wp2
      · go_round
        case rel => exact ⟨k + 1, by omega, by go_num, _, rfl⟩
        case measure => simp [intOf]; omega
      · go_returns
        exact ⟨w.heap.size, rfl, Nat.le_refl _, (Dn.al w _), HR.out, hb, 0, q, by omega, by omega, Bk.new w _ _⟩
    · go_wp2
      go_returns
      exact ⟨w.heap.size, rfl, Nat.le_refl _, (Dn.al w _), HR.out, hb, 0, q, by omega, by omega, Bk.new w _ _⟩
set_option maxHeartbeats 1000000 in
set_option maxRecDepth 100000 in
theorem l05Any_c (w0 : World) (A : Option Addr) (n cap : Nat) (xs : List Int) (cb : Nat) (w : World) (hc : Cur w0 A n cap xs cb w) :
    Calls Tryz.prog 20 #[.pointer (some ⟨cb, 0, none⟩)] w fun e w' => ∃ v ys, ys.length ≤ 8192 ∧ Byt ys ∧ e = .returned (.agg #[v]) ∧ RamCur w0 A n cap xs cb w v ys w' := by
  have HC := Lib.hid hc
  clear hc
  obtain ⟨i0, hi0⟩ := info_parts info8
  have HI := Lib.hid hi0
  clear hi0
  go_enter Tryz.func20, Tryz.ntmps20
  go_wp2_with fail
  have hlt := HC.out.lt
  have hst : CurOut w0 A n cap xs cb w (w.alloc (.cells #[.slice none 0 0] 30)) := CurOut.of HC.out (Dn.al w _)
  refine (l01Once_c w0 A n cap xs cb _ hst.1 10 (by omega) (by omega)).mono ?_
  rintro e w1 ⟨x, rfl, hc1⟩
  have K1 := Lib.hid ((Bk.new w 30 #[.slice none 0 0]).grown hc1.2 (by intro e; injection e; omega))
  have HO1 := Lib.hid (hst.trans hc1)
  clear hc1 hst
  go_wp2_with fail
  · refine (pick_new w0 A n cap xs cb _ HO1.out.1 [0, 255, 257, 768, 8192] (by decide) (by decide) 3).mono ?_
    rintro e w2 ⟨y, hy, rfl, hc2⟩
    obtain ⟨m, rfl, hm⟩ : ∃ m : Nat, y = (m : Int) ∧ m ≤ 8192 := by
      simp at hy
      exact ⟨y.toNat, by omega, by omega⟩
    have k2 := K1.out.grown hc2.2 (by intro e; injection e; omega)
    have HO2 := Lib.hid (HO1.out.trans hc2)
    obtain ⟨hi, hz0, hz1, hz2⟩ := HI.out
    clear hy hc2 K1 HO1
    go_wp2_with (at_make; refine wpList_make_full _ rfl _ _ 22 rfl w.heap.size 5 i0 (.int .u8 0) 1 Tryz.underlying22 hi hz0 hz1 .i64 .i64 _ _ m rfl rfl rfl rfl (by rw [hz2]; omega) (by unfold maxLen; omega) (by have := HO2.out.size; omega) ?_; intro w3 hown hgr; have HB := Lib.hid (HO2.out.then_ ((Below.refl _ _).grown hgr (Nat.le_refl _) (by simp))); have k3 := k2.grown hgr (by simp); have hne := own_apart hown k3 (by decide); have HW := Lib.hid hown; have c := k3.cell; have f := k3.frozen; clear hgr hown k2 k3 hi hz0 hz1 hz2)
    have h2 := own_far HW.out (p := ⟨w.heap.size, 0, none⟩) hne (.slice (some ⟨w2.heap.size, 0, none⟩) m m)
    rw [made_zero] at h2
    have H2 := Lib.hid h2
    clear h2 HW
    refine bodyPost_ret (v := .agg #[.slice (some ⟨w2.heap.size, 0, none⟩) m m]) (by simp [results, Tryz.results20, go_sem, c]) rfl ⟨_, List.replicate m 0, by simp; omega, by intro x hx; rw [List.mem_replicate] at hx; omega, rfl, by have := H2.out; simpa using this, HB.out.put HC.out (Nat.le_refl _) _ _⟩
  · refine (l05Ram_c w0 A n cap xs cb _ HO1.out.1).mono ?_
    rintro e w2 ⟨v, ys, hs, hby, rfl, hown, hc2⟩
    obtain ⟨vA, vc, rfl⟩ := own_shape hown
    have k2 := K1.out.grown hc2.2 (by intro e; injection e; omega)
    have hne := own_apart hown k2 (by decide)
    have HW := Lib.hid (own_more hown HO1.out.size)
    have HO2 := Lib.hid (HO1.out.trans hc2)
    have c := k2.cell
    have f := k2.frozen
    clear hown hc2 k2 HO1 K1
    have HS := Lib.hid hs
    clear hs
    go_wp2
    refine bodyPost_ret (v := .agg #[.slice vA ys.length vc]) (by simp [results, Tryz.results20, go_sem, c]) rfl ⟨_, ys, by have := HS.out; unfold okSize at this; omega, hby, rfl, own_far (p := ⟨w.heap.size, 0, none⟩) HW.out hne _, HO2.out.put HC.out (Nat.le_refl _) _ _⟩
set_option maxHeartbeats 1000000 in
set_option maxRecDepth 100000 in
theorem l06Small_c (w0 : World) (A : Option Addr) (n cap : Nat) (xs : List Int) (cb : Nat) (w : World) (hc : Cur w0 A n cap xs cb w) :
    Calls Tryz.prog 18 #[.pointer (some ⟨cb, 0, none⟩)] w fun e w' => ∃ c v ys, Cp.ok c ∧ okSize ys.length ∧ Byt ys ∧ e = .returned (.tuple #[.agg #[.int .u8 c.a, .int .u8 c.x, .int .u8 c.y, .int .u8 c.s, .int .u16 c.pc, .bool c.f.n, .bool c.f.v, .bool c.f.d, .bool c.f.i, .bool c.f.z, .bool c.f.c], .agg #[v]]) ∧ RamCur w0 A n cap xs cb w v ys w' := by
  have HC := Lib.hid hc
  clear hc
  go_enter Tryz.func18, Tryz.ntmps18
  go_wp2_with fail
  have hlt := HC.out.lt
  have hst : CurOut w0 A n cap xs cb w ((w.alloc (.cells #[.int .u8 0, .int .u8 0, .int .u8 0, .int .u8 0, .int .u16 0, .bool false, .bool false, .bool false, .bool false, .bool false, .bool false] 28)).alloc (.cells #[.slice none 0 0] 30)) := CurOut.of HC.out (Dn.trans (Dn.al w _) (Dn.al _ _))
  refine (l05Ram_c w0 A n cap xs cb _ hst.1).mono ?_
  rintro e w1 ⟨v, ys, hs, hby, rfl, hown, hc1⟩
  obtain ⟨g, cp, rfl, _, _⟩ := hown.form (by unfold okSize at hs; omega)
  have HO1 := Lib.hid (hst.trans hc1)
  have K0 := Lib.hid (((Bk.new w 28 #[.int .u8 0, .int .u8 0, .int .u8 0, .int .u8 0, .int .u16 0, .bool false, .bool false, .bool false, .bool false, .bool false, .bool false]).al (.cells #[.slice none 0 0] 30)).grown hc1.2 (by intro e; injection e; omega))
  have K1 := Lib.hid ((Bk.new1 w (.cells #[.int .u8 0, .int .u8 0, .int .u8 0, .int .u8 0, .int .u16 0, .bool false, .bool false, .bool false, .bool false, .bool false, .bool false] 28) 30 #[.slice none 0 0]).grown hc1.2 (by intro e; injection e; omega))
  have HW1 := Lib.hid (own_more hown (b2 := w.heap.size) (by simp; omega))
  have HS := Lib.hid hs
  clear hs hown hc1 hst
  have hl1 : w.heap.size + 1 < w1.heap.size := K1.out.lt
  go_wp2_with fail
  refine (l05Cpu_c w0 A n cap xs cb _ (HO1.out.then_ (Dn.al w1 (.cells #[.slice (some ⟨g, 0, none⟩) ys.length cp] 30))).1).mono ?_
  rintro e w2 ⟨c, hok, rfl, hc2⟩
  have HO2 := Lib.hid ((HO1.out.then_ (Dn.al w1 (.cells #[.slice (some ⟨g, 0, none⟩) ys.length cp] 30))).trans hc2)
  have K2 := Lib.hid ((K0.out.al (.cells #[.slice (some ⟨g, 0, none⟩) ys.length cp] 30)).grown hc2.2 (by intro e; injection e; omega))
  have K3 := Lib.hid ((K1.out.al (.cells #[.slice (some ⟨g, 0, none⟩) ys.length cp] 30)).grown hc2.2 (by intro e; injection e; omega))
  have KR := Lib.hid ((Bk.new w1 30 #[.slice (some ⟨g, 0, none⟩) ys.length cp]).grown hc2.2 (by have := HO1.out.1.lt; intro e; injection e; omega))
  have HW2 := Lib.hid (own_curOut HC.out (HW1.out.alloc (.cells #[.slice (some ⟨g, 0, none⟩) ys.length cp] 30)) hc2 (by simp; omega))
  have hlr := KR.out.lt
  clear hc2 K0 K1 HW1 HO1
  go_wp2_with fail
  have kp := Bk.new w2 28 #[.int .u8 c.a, .int .u8 c.x, .int .u8 c.y, .int .u8 c.s, .int .u16 c.pc, .bool c.f.n, .bool c.f.v, .bool c.f.d, .bool c.f.i, .bool c.f.z, .bool c.f.c]
  have kr := KR.out.al (.cells #[.int .u8 c.a, .int .u8 c.x, .int .u8 c.y, .int .u8 c.s, .int .u16 c.pc, .bool c.f.n, .bool c.f.v, .bool c.f.d, .bool c.f.i, .bool c.f.z, .bool c.f.c] 28)
  have HO3 := Lib.hid (HO2.out.then_ (Dn.al w2 (.cells #[.int .u8 c.a, .int .u8 c.x, .int .u8 c.y, .int .u8 c.s, .int .u16 c.pc, .bool c.f.n, .bool c.f.v, .bool c.f.d, .bool c.f.i, .bool c.f.z, .bool c.f.c] 28)))
  have K4 := Lib.hid (K2.out.al (.cells #[.int .u8 c.a, .int .u8 c.x, .int .u8 c.y, .int .u8 c.s, .int .u16 c.pc, .bool c.f.n, .bool c.f.v, .bool c.f.d, .bool c.f.i, .bool c.f.z, .bool c.f.c] 28))
  have K5 := Lib.hid (K3.out.al (.cells #[.int .u8 c.a, .int .u8 c.x, .int .u8 c.y, .int .u8 c.s, .int .u16 c.pc, .bool c.f.n, .bool c.f.v, .bool c.f.d, .bool c.f.i, .bool c.f.z, .bool c.f.c] 28))
  have HW3 := Lib.hid (HW2.out.alloc (.cells #[.int .u8 c.a, .int .u8 c.x, .int .u8 c.y, .int .u8 c.s, .int .u16 c.pc, .bool c.f.n, .bool c.f.v, .bool c.f.d, .bool c.f.i, .bool c.f.z, .bool c.f.c] 28))
  have hpb : w1.heap.size < w2.heap.size := hlr
  clear K2 K3 KR HW2 HO2
  generalize w2.alloc (.cells #[.int .u8 c.a, .int .u8 c.x, .int .u8 c.y, .int .u8 c.s, .int .u16 c.pc, .bool c.f.n, .bool c.f.v, .bool c.f.d, .bool c.f.i, .bool c.f.z, .bool c.f.c] 28) = w3 at *
  generalize w2.heap.size = pb at *
  generalize w1.heap.size = rb at *
  have hpc : 0 ≤ c.pc ∧ c.pc < 65536 := by unfold Cp.ok at hok; omega
  have cp0 := kp.cell
  have cr0 := kr.cell 0
  have n1 : w.heap.size ≠ pb := by omega
  have n2 : pb ≠ w.heap.size := by omega
  have n3 : w.heap.size + 1 ≠ pb := by omega
  have n4 : pb ≠ w.heap.size + 1 := by omega
  have n5 : w.heap.size ≠ rb := by omega
  have n6 : rb ≠ w.heap.size := by omega
  have n7 : w.heap.size + 1 ≠ rb := by omega
  have n8 : rb ≠ w.heap.size + 1 := by omega
  go_region_held3 (fun w' => (∀ i, w'.cell? ⟨pb, i, none⟩ = (#[.int .u8 c.a, .int .u8 c.x, .int .u8 c.y, .int .u8 c.s, .int .u16 c.pc, .bool c.f.n, .bool c.f.v, .bool c.f.d, .bool c.f.i, .bool c.f.z, .bool c.f.c] : Array Value)[i]?) ∧ w'.cell? ⟨rb, 0, none⟩ = some (.slice (some ⟨g, 0, none⟩) ys.length cp)) (first | exact ⟨cp0, cr0⟩ | exact ⟨kp4.cell, kr4.cell 0⟩ | exact ⟨kp5.cell, kr5.cell 0⟩ | exact ⟨fun i => by simp [World.cell?_setCell_other, n1, n2, n3, n4, kp5.cell], by simp [World.cell?_setCell_other, n5, n6, n7, n8, kr5.cell]⟩) (first | (go_at_call 39; refine (l04Bytes_c w0 A n cap xs cb _ (HO3.out.then_ (Dn.drew w3)).1 2 (by omega) (by omega)).mono ?_; rintro e w4 ⟨u, ls, hl, hbl, rfl, hown4, hc4⟩; have kp4 := kp.drew.grown hc4.2 (by intro e; injection e; omega); have kr4 := kr.drew.grown hc4.2 (by intro e; injection e; omega); obtain ⟨uA, uc, rfl⟩ := own_shape hown4) | (go_at_call 38; refine (sFill_c ⟨g, 0, none⟩ cp ys HS.out c.pc hpc.1 hpc.2 uA uc ls (by omega) _ (own_rd (own_curOut HC.out (own_later HW3.out (Dn.drew w3)) hc4 HO3.out.size)) (own_rd hown4)).mono ?_; rintro e w5 ⟨g2, cap2, rfl, hown5, hb5⟩; have kp5 := kp4.later hb5; have kr5 := kr4.later hb5; have q4 := (K4.out.drew.grown hc4.2 (by intro e; injection e; omega)).later hb5; have q5 := (K5.out.drew.grown hc4.2 (by intro e; injection e; omega)).later hb5; have z4 := q4.cell; have z5 := q5.cell 0; have y4 := q4.frozen; have y5 := q5.frozen 0))
  rename_i hHeld
  clear hHeld
  have HO5 := Lib.hid (((HO3.out.then_ (Dn.drew w3)).trans hc4).then_ hb5)
  have e4 := own_apart hown5 q4 (by decide)
  have e5 := own_apart hown5 q5 (by decide)
  have HE := Lib.hid (show (fillF ys c.pc ls).length = ys.length from fillN_length _ _ _ _)
  have hbyt : Byt (fillF ys c.pc ls) := fillN_byt hby _ hbl _
  have H1 := Lib.hid (own_more hown5 (b2 := w.heap.size) ((HO3.out.then_ (Dn.drew w3)).trans hc4).size)
  clear hown5 hc4 HO3
  generalize fillF ys c.pc ls = zs at *
  go_wp2
  refine bodyPost_ret (v := .tuple #[.agg #[.int .u8 c.a, .int .u8 c.x, .int .u8 c.y, .int .u8 c.s, .int .u16 c.pc, .bool c.f.n, .bool c.f.v, .bool c.f.d, .bool c.f.i, .bool c.f.z, .bool c.f.c], .agg #[.slice (some ⟨g2, 0, none⟩) zs.length cap2]]) (by simp [results, Tryz.results18, go_sem, z4, z5]) rfl ⟨c, _, zs, hok, by rw [HE.out]; exact HS.out, hbyt, rfl, own_far (p := ⟨w.heap.size + 1, 0, none⟩) (own_far11 H1.out e4 _ _ _ _ _ _ _ _ _ _ _) e5 _, ?_⟩
  repeat first | exact HO5.out | refine CurOut.put ?_ HC.out (by omega) _ _
end Go.Proofs.YtemahcjglmhefaaGreatDoor
namespace Go.Proofs.YtemahcjglmhefaaGreatDoor
set_option linter.unusedVariables false
set_option linter.unusedSimpArgs false
open Go.RowKit
attribute [local irreducible] World.setCell
theorem Cur.bel {w0 w : World} {A : Option Addr} {n cap : Nat} {xs : List Int} {cb : Nat} (h : Cur w0 A n cap xs cb w) : Below w0.heap.size w0 w := h.2.1
/-- A memory of the call's own, right or not. -/
def MemOut (w : World) (v : Value) (ys : List Int) (w' : World) : Prop := ys.length ≤ 8192 ∧ Byt ys ∧ w'.ownsRow w.heap.size 5 1 v ys.length (nums .u8 ys) ∧ Below w.heap.size w w'
set_option maxHeartbeats 2000000 in
set_option maxRecDepth 100000 in
theorem DrawStep_c (A : Option Addr) (n cap : Nat) (xs : List Int) (w : World) (hr : Rds w .u8 A n xs) (hb : Byt xs) (hn : n ≤ 1048576) :
    Calls Tryz.prog 12 #[.slice A n cap] w fun e w' => ∃ c v ys, Cp.ok c ∧ e = .returned (.tuple #[.agg #[.int .u8 c.a, .int .u8 c.x, .int .u8 c.y, .int .u8 c.s, .int .u16 c.pc, .bool c.f.n, .bool c.f.v, .bool c.f.d, .bool c.f.i, .bool c.f.z, .bool c.f.c], .agg #[v]]) ∧ MemOut w v ys w' := by
  go_enter Tryz.func12, Tryz.ntmps12
  go_wp2_with fail
  have hba : Below w.heap.size w ((w.alloc (.cells #[.int .u8 0, .int .u8 0, .int .u8 0, .int .u8 0, .int .u16 0, .bool false, .bool false, .bool false, .bool false, .bool false, .bool false] 28)).alloc (.cells #[.slice none 0 0] 30)) := Dn.trans (Dn.al w _) (Dn.al _ _)
  have k0 := (Bk.new w 28 #[.int .u8 0, .int .u8 0, .int .u8 0, .int .u8 0, .int .u16 0, .bool false, .bool false, .bool false, .bool false, .bool false, .bool false]).al (.cells #[.slice none 0 0] 30)
  have k1 := Bk.new1 w (.cells #[.int .u8 0, .int .u8 0, .int .u8 0, .int .u8 0, .int .u16 0, .bool false, .bool false, .bool false, .bool false, .bool false, .bool false] 28) 30 #[.slice none 0 0]
  have hsz : ((w.alloc (.cells #[.int .u8 0, .int .u8 0, .int .u8 0, .int .u8 0, .int .u16 0, .bool false, .bool false, .bool false, .bool false, .bool false, .bool false] 28)).alloc (.cells #[.slice none 0 0] 30)).heap.size = w.heap.size + 2 := by simp
  have HSZ := Lib.hid hsz
  refine (l01New_c A n cap xs _ (hr.later hba) hb hn).mono ?_
  clear hsz
  rintro e w1 ⟨cb, rfl, hc1⟩
  have hcb : w.heap.size + 2 ≤ cb := by have := hc1.lo; have := HSZ.out; omega
  have K0 := Lib.hid (k0.later hc1.bel)
  have K1 := Lib.hid (k1.later hc1.bel)
  have HA := Lib.hid hba
  clear k0 k1 hba
  generalize (w.alloc (.cells #[.int .u8 0, .int .u8 0, .int .u8 0, .int .u8 0, .int .u16 0, .bool false, .bool false, .bool false, .bool false, .bool false, .bool false] 28)).alloc (.cells #[.slice none 0 0] 30) = wa at *
  go_wp2_with fail
  refine (l06Small_c wa A n cap xs cb _ hc1).mono ?_
  rintro e w2 ⟨c, v, ys, hok, hs, hby, rfl, hown, hc2⟩
  obtain ⟨vA, vc, rfl⟩ := own_shape hown
  have hy8 : ys.length ≤ 8192 := by unfold okSize at hs; omega
  have hl1 := hc1.top
  have K2 := Lib.hid (K0.out.grown hc2.2 (by intro e; injection e; omega))
  have K3 := Lib.hid (K1.out.grown hc2.2 (by intro e; injection e; omega))
  have hl2 := hc2.size
  have HW2 := Lib.hid hown
  have hcl := hc2.1.lt
  clear hown K0 K1 hs
  go_wp2_with fail
  have hba : Below w2.heap.size w2 ((w2.alloc (.cells #[.int .u8 c.a, .int .u8 c.x, .int .u8 c.y, .int .u8 c.s, .int .u16 c.pc, .bool c.f.n, .bool c.f.v, .bool c.f.d, .bool c.f.i, .bool c.f.z, .bool c.f.c] 28)).alloc (.cells #[.slice vA ys.length vc] 30)) := Dn.trans (Dn.al w2 _) (Dn.al _ _)
  refine (l01Once_c wa A n cap xs cb _ (hc2.then_ hba).1 20 (by omega) (by omega)).mono ?_
  rintro e w3 ⟨x, rfl, hc3⟩
  have kp := ((Bk.new w2 28 #[.int .u8 c.a, .int .u8 c.x, .int .u8 c.y, .int .u8 c.s, .int .u16 c.pc, .bool c.f.n, .bool c.f.v, .bool c.f.d, .bool c.f.i, .bool c.f.z, .bool c.f.c]).al (.cells #[.slice vA ys.length vc] 30)).grown hc3.2 (by intro e; injection e; omega)
  have kr := (Bk.new1 w2 (.cells #[.int .u8 c.a, .int .u8 c.x, .int .u8 c.y, .int .u8 c.s, .int .u16 c.pc, .bool c.f.n, .bool c.f.v, .bool c.f.d, .bool c.f.i, .bool c.f.z, .bool c.f.c] 28) 30 #[.slice vA ys.length vc]).grown hc3.2 (by intro e; injection e; omega)
  have K4 := Lib.hid ((K2.out.later hba).grown hc3.2 (by intro e; injection e; omega))
  have K5 := Lib.hid ((K3.out.later hba).grown hc3.2 (by intro e; injection e; omega))
  have HW3 := Lib.hid (own_more (own_curOut hc1 (own_later HW2.out hba) hc3 (Nat.le_trans hl2 hba.size)) (b2 := w.heap.size) (by have := HSZ.out; omega))
  have HO3 := Lib.hid ((hc2.then_ hba).trans hc3)
  clear HW2 K2 K3 hc2 hc3 hba
  have n1 : w.heap.size ≠ w2.heap.size := by omega
  have n2 : w2.heap.size ≠ w.heap.size := by omega
  have n3 : w.heap.size + 1 ≠ w2.heap.size := by omega
  have n4 : w2.heap.size ≠ w.heap.size + 1 := by omega
  have n5 : w.heap.size ≠ w2.heap.size + 1 := by omega
  have n6 : w2.heap.size + 1 ≠ w.heap.size := by omega
  generalize w2.heap.size = pb at *
  have cp0 := kp.cell
  have cr0 := kr.cell 0
  go_wp2_with fail
  · clear cr0
    go_region_held3 (fun w' => ∀ i, w'.cell? ⟨pb, i, none⟩ = (#[.int .u8 c.a, .int .u8 c.x, .int .u8 c.y, .int .u8 c.s, .int .u16 c.pc, .bool c.f.n, .bool c.f.v, .bool c.f.d, .bool c.f.i, .bool c.f.z, .bool c.f.c] : Array Value)[i]?) (first | exact cp0 | exact kp4.cell | exact fun i => by simp [World.cell?_setCell_other, n1, n2, n3, n4, kp4.cell]) (first | (go_at_call 20; refine (l05Any_c wa A n cap xs cb _ (HO3.out.then_ (Dn.drew w3)).1).mono ?_; rintro e w4 ⟨u, zs, hl, hbl, rfl, hown4, hc4⟩; obtain ⟨uA, uc, rfl⟩ := own_shape hown4; have kp4 := kp.drew.grown hc4.2 (by intro e; injection e; omega); have q4 := K4.out.drew.grown hc4.2 (by intro e; injection e; omega); have q5 := K5.out.drew.grown hc4.2 (by intro e; injection e; omega); have z4 := q4.cell; have z5 := q5.cell 0; have y4 := q4.frozen; have y5 := q5.frozen 0))
    rename_i hHeld
    clear hHeld
    have e4 := own_apart hown4 q4 (by decide)
    have e5 := own_apart hown4 q5 (by decide)
    have HB := Lib.hid (Dn.trans HA.out hc4.1.bel)
    have H1 := Lib.hid (own_more hown4 (b2 := w.heap.size) (by have := HO3.out.1.top; have := HSZ.out; show _ ≤ w3.heap.size; omega))
    clear hown4 hc4 HO3 hc1
    go_wp2
    refine bodyPost_ret (v := .tuple #[.agg #[.int .u8 c.a, .int .u8 c.x, .int .u8 c.y, .int .u8 c.s, .int .u16 c.pc, .bool c.f.n, .bool c.f.v, .bool c.f.d, .bool c.f.i, .bool c.f.z, .bool c.f.c], .agg #[.slice uA zs.length uc]]) (by simp [results, Tryz.results12, go_sem, z4, z5]) rfl ⟨c, _, zs, hok, rfl, hl, hbl, own_far (p := ⟨w.heap.size + 1, 0, none⟩) (own_far11 H1.out e4 _ _ _ _ _ _ _ _ _ _ _) e5 _, (below11 HB.out (Nat.le_refl _) _ _ _ _ _ _ _ _ _ _ _).setCell (p := ⟨w.heap.size + 1, 0, none⟩) (Nat.le_succ _) _⟩
  · have z4 := K4.out.cell
    have z5 := K5.out.cell 0
    have y4 := K4.out.frozen
    have y5 := K5.out.frozen 0
    have e4 := own_apart HW3.out K4.out (by decide)
    have e5 := own_apart HW3.out K5.out (by decide)
    have HB := Lib.hid (Dn.trans HA.out HO3.out.1.bel)
    clear HO3 hc1 K4 K5
    go_region_held3 (fun w' => (∀ i, w'.cell? ⟨pb, i, none⟩ = (#[.int .u8 c.a, .int .u8 c.x, .int .u8 c.y, .int .u8 c.s, .int .u16 c.pc, .bool c.f.n, .bool c.f.v, .bool c.f.d, .bool c.f.i, .bool c.f.z, .bool c.f.c] : Array Value)[i]?) ∧ w'.cell? ⟨pb + 1, 0, none⟩ = some (.slice vA ys.length vc)) (first | exact ⟨cp0, cr0⟩ | exact ⟨fun i => by simp [World.cell?_setCell_other, n1, n2, n3, n4, cp0], by simp [World.cell?_setCell_other, n1, n2, n3, n4, n5, n6, cr0]⟩) (fail)
    rename_i hHeld
    clear hHeld cp0 cr0 kp kr
    go_wp2
    refine bodyPost_ret (v := .tuple #[.agg #[.int .u8 c.a, .int .u8 c.x, .int .u8 c.y, .int .u8 c.s, .int .u16 c.pc, .bool c.f.n, .bool c.f.v, .bool c.f.d, .bool c.f.i, .bool c.f.z, .bool c.f.c], .agg #[.slice vA ys.length vc]]) (by simp [results, Tryz.results12, go_sem, z4, z5]) rfl ⟨c, _, ys, hok, rfl, hy8, hby, own_far (p := ⟨w.heap.size + 1, 0, none⟩) (own_far11 HW3.out e4 _ _ _ _ _ _ _ _ _ _ _) e5 _, ((below11 HB.out (Nat.le_refl _) _ _ _ _ _ _ _ _ _ _ _).setCell (p := ⟨w.heap.size + 1, 0, none⟩) (Nat.le_succ _) _).drew⟩
end Go.Proofs.YtemahcjglmhefaaGreatDoor
