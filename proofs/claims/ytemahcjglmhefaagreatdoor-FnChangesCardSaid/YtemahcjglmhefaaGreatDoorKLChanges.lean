/- FnChanges' walk. No condition. -/
import Derived.Test.YtemahcjglmhefaaGreatDoorKCur6
import Derived.Test.YtemahcjglmhefaaGreatDoorKPChg
import Derived.Test.YtemahcjglmhefaaGreatDoorKPPre
import Derived.Test.YtemahcjglmhefaaGreatDoorKSJam
import Derived.Test.YtemahcjglmhefaaGreatDoorKSKnow
import Derived.Test.YtemahcjglmhefaaGreatDoorKSServe
import Derived.Deep.DeepCutAuto
namespace Go.Proofs.YtemahcjglmhefaaGreatDoor
set_option linter.unusedVariables false
set_option linter.unusedSimpArgs false
open Go.RowKit
attribute [local irreducible] World.setCell
theorem big_c (A : Option Addr) (n cap : Nat) (w : World) : Calls Tryz.prog 5 #[.slice A n cap] w fun e w' => e = .returned (.bool (decide ((1048576 : Int) < n))) ∧ w = w' := by
  go_enter Tryz.func5, Tryz.ntmps5
  go_wp2
  go_returns
  exact ⟨rfl, rfl⟩
theorem Bk.put11z {w : World} {k : Nat} {t : TypeId} (h : Bk w k t #[.int .i64 0, .int .i64 0, .int .i64 0, .int .i64 0, .int .i64 0, .int .i64 0, .int .i64 0, .int .i64 0, .int .i64 0, .int .i64 0, .int .i64 0]) (a0 a1 a2 a3 a4 a5 a6 a7 a8 a9 a10 : Value) : Bk (((((((((((w.setCell ⟨k, 0, none⟩ a0).setCell ⟨k, 1, none⟩ a1).setCell ⟨k, 2, none⟩ a2).setCell ⟨k, 3, none⟩ a3).setCell ⟨k, 4, none⟩ a4).setCell ⟨k, 5, none⟩ a5).setCell ⟨k, 6, none⟩ a6).setCell ⟨k, 7, none⟩ a7).setCell ⟨k, 8, none⟩ a8).setCell ⟨k, 9, none⟩ a9).setCell ⟨k, 10, none⟩ a10) k t #[a0, a1, a2, a3, a4, a5, a6, a7, a8, a9, a10] := h.put11 _ _ _ _ _ _ _ _ _ _ _
def know10 (c : Cp) : List Int := [c.a, c.x, c.y, c.s, oneB c.f.n, oneB c.f.v, oneB c.f.d, oneB c.f.i, oneB c.f.z, oneB c.f.c]
def lt10 : List UInt8 := [65, 88, 89, 83, 78, 86, 68, 73, 90, 67]
def Xs (c mc : Cp) (xb : Nat) (w wr : World) : Prop := Bk wr xb 3 (nums .i64 (know10 c)).toArray ∧ Bk wr (xb + 1) 3 (nums .i64 (know10 mc)).toArray ∧ Below w.heap.size w wr
theorem Xs.drewN {c mc : Cp} {xb : Nat} {w wr : World} (h : Xs c mc xb w wr) (n : Nat) : Xs c mc xb w (wr.drewN n) := ⟨h.1.drewN n, h.2.1.drewN n, Bl.drewN h.2.2 n⟩
theorem Xs.at_ {c mc : Cp} {xb : Nat} {w wr : World} (h : Xs c mc xb w wr) (k : Nat) (hk : k < 10) : wr.cell? ⟨xb, k, none⟩ = some (.int .i64 ((know10 c).getD k 0)) ∧ wr.cell? ⟨xb + 1, k, none⟩ = some (.int .i64 ((know10 mc).getD k 0)) := by
  have h1 : k < (know10 c).length := hk
  have h2 : k < (know10 mc).length := hk
  rw [h.1.cell k, h.2.1.cell k]
  simp [nums, List.getElem?_eq_getElem h1, List.getElem?_eq_getElem h2, List.getD_eq_getElem?_getD]
theorem take_c {T : List UInt8} {j : Nat} (h : j < T.length) (c : UInt8) : (T.take (j + 1)).contains c = ((T.take j).contains c || T[j] == c) := by
  rw [List.take_succ_eq_append_getElem h, Bool.eq_iff_iff, List.contains_iff_mem, List.mem_append, Bool.or_eq_true, List.contains_iff_mem, List.mem_singleton, beq_iff_eq]
  exact ⟨fun e => e.imp id Eq.symm, fun e => e.imp id Eq.symm⟩
theorem chg_byte (T : List UInt8) (j k : Nat) (hj : j < T.length) (hk : k < 10) (hf : (T.take j).contains (lt10.getD k 0) = false) (p1 : j < (⟨T.toArray⟩ : ByteArray).size) (p2 : k < (⟨#[65, 88, 89, 83, 78, 86, 68, 73, 90, 67]⟩ : ByteArray).size) :
    (((((⟨T.toArray⟩ : ByteArray)[j]'p1).toNat : Nat) : Int) == ((((⟨#[65, 88, 89, 83, 78, 86, 68, 73, 90, 67]⟩ : ByteArray)[k]'p2).toNat : Nat) : Int)) = (T.take (j + 1)).contains (lt10.getD k 0) := by
  have e1 : (⟨T.toArray⟩ : ByteArray)[j]'p1 = T[j] := by show T.toArray[j] = _; simp
  have e2 : (⟨#[65, 88, 89, 83, 78, 86, 68, 73, 90, 67]⟩ : ByteArray)[k]'p2 = lt10.getD k 0 := by
    have hk' : k = 0 ∨ k = 1 ∨ k = 2 ∨ k = 3 ∨ k = 4 ∨ k = 5 ∨ k = 6 ∨ k = 7 ∨ k = 8 ∨ k = 9 := by omega
    rcases hk' with rfl | rfl | rfl | rfl | rfl | rfl | rfl | rfl | rfl | rfl <;> rfl
  rw [e1, e2, take_c hj, hf, Bool.false_or, Bool.eq_iff_iff]
  simp only [beq_iff_eq, Int.natCast_inj, UInt8.toNat_inj]
theorem changes_len : ∀ k : Fin 256, (changesF (k.val : Int)).length ≤ 7 := by decide +kernel
theorem chg_at {T : List UInt8} {c mc : Cp} (h : chgOK T c mc) (k : Nat) (hk : k < 10) : (know10 c).getD k 0 = (know10 mc).getD k 0 ∨ T.contains (lt10.getD k 0) = true := by
  obtain ⟨h0, h1, h2, h3, h4, h5, h6, h7, h8, h9⟩ := h
  have hk' : k = 0 ∨ k = 1 ∨ k = 2 ∨ k = 3 ∨ k = 4 ∨ k = 5 ∨ k = 6 ∨ k = 7 ∨ k = 8 ∨ k = 9 := by omega
  rcases hk' with rfl | rfl | rfl | rfl | rfl | rfl | rfl | rfl | rfl | rfl
  all_goals simp [know10, lt10]
  · rcases h0 with h | h <;> simp [h]
  · rcases h1 with h | h <;> simp [h]
  · rcases h2 with h | h <;> simp [h]
  · rcases h3 with h | h <;> simp [h]
  · rcases h4 with h | h <;> simp [h]
  · rcases h5 with h | h <;> simp [h]
  · rcases h6 with h | h <;> simp [h]
  · rcases h7 with h | h <;> simp [h]
  · rcases h8 with h | h <;> simp [h]
  · rcases h9 with h | h <;> simp [h]
set_option maxHeartbeats 16000000 in
set_option maxRecDepth 100000 in
theorem FnChanges_c (A : Option Addr) (n cap : Nat) (xs : List Int) (w : World) (hr : Rds w .u8 A n xs) (hb : Byt xs) (hG : Gl w) :
    Calls Tryz.prog 4 #[.slice A n cap] w fun e w' => e = .returned (.bool true) ∧ Below w.heap.size w w' := by
  have HR := Lib.hid hr
  clear hr
  by_cases hn : 1048576 < n
  · have hd : decide ((1048576 : Int) < (n : Int)) = true := by simp; omega
    go_enter Tryz.func4, Tryz.ntmps4
    go_wp2_with fail
    refine (big_c A n cap _).mono ?_
    rintro e w1 ⟨rfl, rfl⟩
    rw [hd]
    go_wp2
    go_returns
    exact ⟨rfl, Below.refl _ _⟩
  · have hd : decide ((1048576 : Int) < (n : Int)) = false := by simp; omega
    have HN := Lib.hid (show n ≤ 1048576 by omega)
    clear hn
    go_enter Tryz.func4, Tryz.ntmps4
    go_wp2_with fail
    refine (big_c A n cap _).mono ?_
    rintro e w1 ⟨rfl, rfl⟩
    rw [hd]
    clear hd
    go_wp2_with fail
    refine (DrawStep_c A n cap xs _ HR.out hb HN.out).mono ?_
    rintro e w1 ⟨c, v, ys, hok, rfl, hl, hby, hown, hB1⟩
    obtain ⟨vA, vc, rfl⟩ := own_shape hown
    have ha : Below w1.heap.size w1 ((w1.alloc (.cells #[.int .u8 c.a, .int .u8 c.x, .int .u8 c.y, .int .u8 c.s, .int .u16 c.pc, .bool c.f.n, .bool c.f.v, .bool c.f.d, .bool c.f.i, .bool c.f.z, .bool c.f.c] 28)).alloc (.cells #[.slice vA ys.length vc] 30)) := Dn.trans (Dn.al w1 _) (Dn.al _ _)
    go_wp2_with fail
    refine (sRamOk_c vA ys.length vc (by omega) _).mono ?_
    rintro e w2 ⟨rfl, hb2⟩
    have kp := ((Bk.new w1 28 #[.int .u8 c.a, .int .u8 c.x, .int .u8 c.y, .int .u8 c.s, .int .u16 c.pc, .bool c.f.n, .bool c.f.v, .bool c.f.d, .bool c.f.i, .bool c.f.z, .bool c.f.c]).al (.cells #[.slice vA ys.length vc] 30)).later hb2
    have kr := (Bk.new1 w1 (.cells #[.int .u8 c.a, .int .u8 c.x, .int .u8 c.y, .int .u8 c.s, .int .u16 c.pc, .bool c.f.n, .bool c.f.v, .bool c.f.d, .bool c.f.i, .bool c.f.z, .bool c.f.c] 28) 30 #[.slice vA ys.length vc]).later hb2
    have HW := Lib.hid (own_later (own_later hown ha) hb2)
    have HB := Lib.hid (Dn.trans hB1 (Dn.trans ha hb2))
    have hsz : w.heap.size ≤ w1.heap.size := hB1.size
    clear hown hB1 ha hb2
    generalize w1.heap.size = pb at *
    cases hs : okSizeB ys.length
    · go_wp2
      go_returns
      exact ⟨rfl, HB.out⟩
    · have HS := Lib.hid ((okSizeB_iff ys.length).1 hs)
      clear hs
      obtain ⟨g, vc', e, _⟩ := HW.out.form (by have := HS.out; unfold okSize at this; omega)
      cases e
      have hpc : 0 ≤ c.pc ∧ c.pc < 65536 := by unfold Cp.ok at hok; omega
      have cp := kp.cell
      have cr := kr.cell 0
      go_wp2_with fail
      refine (sJams_c (some ⟨g, 0, none⟩) ys.length vc ys c.pc hpc.1 hpc.2 HS.out hby _ (own_rd HW.out)).mono ?_
      rintro e w3 ⟨rfl, hb3⟩
      have kp3 := kp.later hb3
      have kr3 := kr.later hb3
      have HW3 := Lib.hid (own_later HW.out hb3)
      have HB3 := Lib.hid (HB.out.trans (hb3.mono HB.out.size))
      clear hb3 kp kr HW HB cp cr
      cases hj : (opF (rd ys (c.pc % (ys.length : Int)))).1.isEmpty
      · have cp := kp3.cell
        have cr := kr3.cell 0
        have hf : StepF c ys = stepF ⟨c, ys, []⟩ := by unfold StepF; rw [hj]; rfl
        obtain ⟨lr, hlr⟩ := stepF_first c ys
        have hch := step_chg c ys hby
        rw [← hf] at hlr
        have hop := hby.rd (c.pc % (ys.length : Int))
        clear hj hf
        go_wp2_with fail
        have hS := Step_c c ⟨g, 0, none⟩ ys.length vc ys hok HS.out hby _ (own_rd HW3.out) (hG.later HB3.out)
        generalize StepF c ys = m at *
        generalize rd ys (c.pc % (ys.length : Int)) = op at *
        refine hS.mono ?_
        clear hS
        rintro e w4 ⟨g2, cap2, cv2, rfl, _, hcy, hb4, hmok, _, _⟩
        obtain ⟨mc, mram, mcy⟩ := m
        simp only at hlr hch hcy hmok ⊢
        subst hlr
        obtain ⟨gc, cc, e, _⟩ := hcy.form (by simp)
        subst e
        have hcell : w4.cell? ⟨gc, 1, none⟩ = some (.int .u8 op) := by
          rw [hcy.cellAt 1 (by simp; omega)]
          rfl
        have hgc := hcy.lt gc rfl
        have HCY := Lib.hid hcy
        have kp4 := kp3.later hb4
        have HB4 := Lib.hid (HB3.out.trans (hb4.mono HB3.out.size))
        have hlen : ((⟨c.pc, op, false⟩ : Cy) :: lr).length = lr.length + 1 := by simp
        rw [hlen]
        have hgc1 : gc < w4.heap.size + 1 := by omega
        clear hcy hb4 kp3 kr3 HW3 HB3 cp cr hlen
        go_wp2_with fail
        have ha : Below w4.heap.size w4 ((w4.alloc (.cells #[.int .u8 mc.a, .int .u8 mc.x, .int .u8 mc.y, .int .u8 mc.s, .int .u16 mc.pc, .bool mc.f.n, .bool mc.f.v, .bool mc.f.d, .bool mc.f.i, .bool mc.f.z, .bool mc.f.c] 28)).alloc (.cells #[.slice (some ⟨g2, 0, none⟩) mram.length cap2] 30)) := Dn.trans (Dn.al w4 _) (Dn.al _ _)
        have kq := (Bk.new w4 28 #[.int .u8 mc.a, .int .u8 mc.x, .int .u8 mc.y, .int .u8 mc.s, .int .u16 mc.pc, .bool mc.f.n, .bool mc.f.v, .bool mc.f.d, .bool mc.f.i, .bool mc.f.z, .bool mc.f.c]).al (.cells #[.slice (some ⟨g2, 0, none⟩) mram.length cap2] 30)
        refine (Changes_c op hop.1 hop.2 _ (hG.later (HB4.out.trans (ha.mono HB4.out.size)))).mono ?_
        rintro e w5 ⟨rfl, hb5⟩
        have hc5 := Dn.trans ha hb5
        have hcell5 : w5.cell? ⟨gc, 1, none⟩ = some (.int .u8 op) := (hc5.cell (p := ⟨gc, 1, none⟩) hgc.2).trans hcell
        have kp5 := kp4.later hc5
        have kq5 := kq.later hb5
        have HB5 := Lib.hid (HB4.out.trans (hc5.mono HB4.out.size))
        have hgq : w4.heap.size < w5.heap.size := kq5.lt
        generalize hT : changesF op = T at *
        have HT := Lib.hid hT
        have HCH := Lib.hid hch
        clear hT hch hc5 hb5 ha kp4 kq HB4 hcell hgc1 HCY
        generalize w4.heap.size = qb at *
        have hgc2 : gc < w5.heap.size := by omega
        go_wp2_with fail
        refine (sChanges_c op hop.1 hop.2 _).mono ?_
        rintro e w6 ⟨rfl, hb6⟩
        rw [HT.out]
        have kp6 := kp5.later hb6
        have kq6 := kq5.later hb6
        have HB6 := Lib.hid (HB5.out.trans (hb6.mono HB5.out.size))
        clear hb6 kp5 kq5 HB5 hcell5
        have cp := kp6.cell
        have cq := kq6.cell
        go_upto_region 10 with fail
        go_cut [9, 10] (fun s9 s10 wx => ∃ p9 p10 : Nat, s9 = .pointer (some ⟨p9, 0, none⟩) ∧ s10 = .pointer (some ⟨p10, 0, none⟩) ∧ Bk wx p9 46 #[.int .i64 c.a, .int .i64 c.x, .int .i64 c.y, .int .i64 c.s, .int .i64 c.pc, .int .i64 (oneB c.f.n), .int .i64 (oneB c.f.v), .int .i64 (oneB c.f.d), .int .i64 (oneB c.f.i), .int .i64 (oneB c.f.z), .int .i64 (oneB c.f.c)] ∧ Bk wx p10 46 #[.int .i64 mc.a, .int .i64 mc.x, .int .i64 mc.y, .int .i64 mc.s, .int .i64 mc.pc, .int .i64 (oneB mc.f.n), .int .i64 (oneB mc.f.v), .int .i64 (oneB mc.f.d), .int .i64 (oneB mc.f.i), .int .i64 (oneB mc.f.z), .int .i64 (oneB mc.f.c)] ∧ Below w6.heap.size w6 wx)
        case first =>
          go_region_held3 (fun w' => (∀ i, w'.cell? ⟨pb, i, none⟩ = (#[.int .u8 c.a, .int .u8 c.x, .int .u8 c.y, .int .u8 c.s, .int .u16 c.pc, .bool c.f.n, .bool c.f.v, .bool c.f.d, .bool c.f.i, .bool c.f.z, .bool c.f.c] : Array Value)[i]?) ∧ ∀ i, w'.cell? ⟨qb, i, none⟩ = (#[.int .u8 mc.a, .int .u8 mc.x, .int .u8 mc.y, .int .u8 mc.s, .int .u16 mc.pc, .bool mc.f.n, .bool mc.f.v, .bool mc.f.d, .bool mc.f.i, .bool mc.f.z, .bool mc.f.c] : Array Value)[i]?) (first | exact ⟨cp, cq⟩ | exact ⟨(kp6.later (by repeat (first | exact Below.refl _ _ | refine Dn.trans ?_ hb8 | refine Dn.trans ?_ hb7 | refine Dn.trans ?_ (Dn.al _ _) | refine Dn.trans ?_ (Dn.drew _) | (refine Below.setCell ?_ ?_ _; rotate_left; (simp only []; omega))))).cell, (kq6.later (by repeat (first | exact Below.refl _ _ | refine Dn.trans ?_ hb8 | refine Dn.trans ?_ hb7 | refine Dn.trans ?_ (Dn.al _ _) | refine Dn.trans ?_ (Dn.drew _) | (refine Below.setCell ?_ ?_ _; rotate_left; (simp only []; omega))))).cell⟩) (first | (go_at_call 16; (with_reducible refine (sKnowOf_c c hok _).mono ?_); rintro e w7 ⟨rfl, hb7⟩; have s7 : w6.heap.size ≤ w7.heap.size := (by have := hb7.size; (try simp at this); omega); (try (have zA : Bk w7 w6.heap.size 46 #[.int .i64 0, .int .i64 0, .int .i64 0, .int .i64 0, .int .i64 0, .int .i64 0, .int .i64 0, .int .i64 0, .int .i64 0, .int .i64 0, .int .i64 0] := Bk.later (by first | exact Bk.new _ _ _ | exact (Bk.new _ _ _).al _) hb7; have lzA := zA.lt; have m1 : w6.heap.size ≠ w7.heap.size := (by omega); have m2 : w7.heap.size ≠ w6.heap.size := (by omega); have m3 : w6.heap.size ≠ w7.heap.size + 1 := (by omega); have m4 : w7.heap.size + 1 ≠ w6.heap.size := (by omega))); (try (have zB : Bk w7 (w6.heap.size + 1) 46 #[.int .i64 0, .int .i64 0, .int .i64 0, .int .i64 0, .int .i64 0, .int .i64 0, .int .i64 0, .int .i64 0, .int .i64 0, .int .i64 0, .int .i64 0] := Bk.later (by exact Bk.new1 _ _ _ _) hb7; have lzB := zB.lt; have m5 : w6.heap.size + 1 ≠ w7.heap.size := (by omega); have m6 : w7.heap.size ≠ w6.heap.size + 1 := (by omega)))) | (go_at_call 16; (with_reducible refine (sKnowOf_c mc hmok _).mono ?_); rintro e w8 ⟨rfl, hb8⟩; have s8 : w7.heap.size ≤ w8.heap.size := (by have := hb8.size; (try simp at this); omega); (try (have yA : Bk w8 w6.heap.size 46 #[.int .i64 0, .int .i64 0, .int .i64 0, .int .i64 0, .int .i64 0, .int .i64 0, .int .i64 0, .int .i64 0, .int .i64 0, .int .i64 0, .int .i64 0] := Bk.later (by first | exact zA | exact zA.al _ | exact (zA.al _).al _) hb8; have cA := yA.cell; have fA := yA.frozen; have lA := yA.lt)); (try (have yB : Bk w8 (w6.heap.size + 1) 46 #[.int .i64 0, .int .i64 0, .int .i64 0, .int .i64 0, .int .i64 0, .int .i64 0, .int .i64 0, .int .i64 0, .int .i64 0, .int .i64 0, .int .i64 0] := Bk.later (by first | exact zB | exact zB.al _ | exact (zB.al _).al _) hb8; have cB := yB.cell; have fB := yB.frozen; have lB := yB.lt)); (try (have yC : Bk w8 w7.heap.size 46 #[.int .i64 0, .int .i64 0, .int .i64 0, .int .i64 0, .int .i64 0, .int .i64 0, .int .i64 0, .int .i64 0, .int .i64 0, .int .i64 0, .int .i64 0] := Bk.later (by first | exact Bk.new _ _ _ | exact (Bk.new _ _ _).al _) hb8; have cC := yC.cell; have fC := yC.frozen; have lC := yC.lt)); (try (have yD : Bk w8 (w7.heap.size + 1) 46 #[.int .i64 0, .int .i64 0, .int .i64 0, .int .i64 0, .int .i64 0, .int .i64 0, .int .i64 0, .int .i64 0, .int .i64 0, .int .i64 0, .int .i64 0] := Bk.later (by exact Bk.new1 _ _ _ _) hb8; have cD := yD.cell; have fD := yD.frozen; have lD := yD.lt))))
          all_goals
            go_wp2_with fail
            go_meet
            exact ⟨_, _, rfl, rfl, (by repeat (first | with_reducible exact yA | with_reducible exact yB | with_reducible exact yC | with_reducible exact yD | with_reducible exact Bk.newK (by simp) _ _ | with_reducible refine Bk.drew ?_ | with_reducible refine Bk.al ?_ _ | with_reducible refine Bk.put11z ?_ _ _ _ _ _ _ _ _ _ _ _ | with_reducible refine Bk.far11 ?_ (by first | assumption | omega) _ _ _ _ _ _ _ _ _ _ _)), (by repeat (first | with_reducible exact yA | with_reducible exact yB | with_reducible exact yC | with_reducible exact yD | with_reducible exact Bk.newK (by simp) _ _ | with_reducible refine Bk.drew ?_ | with_reducible refine Bk.al ?_ _ | with_reducible refine Bk.put11z ?_ _ _ _ _ _ _ _ _ _ _ _ | with_reducible refine Bk.far11 ?_ (by first | assumption | omega) _ _ _ _ _ _ _ _ _ _ _)), (by repeat (first | with_reducible exact Below.refl _ _ | with_reducible refine Dn.trans ?_ hb8 | with_reducible refine Dn.trans ?_ hb7 | refine Dn.trans ?_ (Dn.al _ _) | refine Dn.trans ?_ (Dn.drew _) | (refine Below.setCell ?_ ?_ _; rotate_left; (simp only []; omega))))⟩
        case rest =>
          obtain ⟨p9, p10, rfl, rfl, k9, k10, hbx⟩ := hcut
          have HB9 := Lib.hid (HB6.out.trans (hbx.mono HB6.out.size))
          have c9 := k9.cell
          have c10 := k10.cell
          have l9 := k9.lt
          have l10 := k10.lt
          have l10a : p10 < wc.heap.size + 1 := by omega
          clear hbx k9 k10 cp cq kp6 kq6
          go_wp2_with fail
          have kx := (Bk.new wc 3 (nums .i64 (know10 c)).toArray).al (.cells (nums .i64 (know10 mc)).toArray 3)
          have ky := Bk.new1 wc (.cells (nums .i64 (know10 c)).toArray 3) 3 (nums .i64 (know10 mc)).toArray
          have HB10 := Lib.hid (Bl.al (Bl.al HB9.out (Nat.le_refl _) (.cells (nums .i64 (know10 c)).toArray 3)) (Nat.le_refl _) (.cells (nums .i64 (know10 mc)).toArray 3))
          clear c9 c10 l9 l10 l10a HB9 HB6
          generalize wc.heap.size = xb at *
          have hTl : T.length ≤ 7 := by
            obtain ⟨k, hk⟩ := Int.eq_ofNat_of_zero_le hop.1
            rw [← HT.out, hk]
            exact changes_len ⟨k, by omega⟩
          go_loopw [14] (fun i wr => ∃ k : Nat, k ≤ 10 ∧ i = .int .i64 k ∧ Xs c mc xb w wr) (fun i _ => 10 - (intOf i).toNat)
          case atStart => exact ⟨0, by omega, rfl, kx, ky, HB10.out⟩
          case round =>
            obtain ⟨k, hk, rfl, hxs⟩ := hrel
            clear kx ky HB10
            have HX := Lib.hid hxs
            clear hxs
            by_cases hlt : k < 10
            · obtain ⟨wo, hwo⟩ : ∃ wo : World, wo = wr := ⟨_, rfl⟩
              go_wp2_with fail
              go_loopw [15, 16] (fun th q wi => ∃ j : Nat, j ≤ T.length ∧ q = .int .i64 j ∧ th = .bool ((T.take j).contains (lt10.getD k 0)) ∧ Xs c mc xb w wi) (fun _ q _ => T.length - (intOf q).toNat)
              case atStart => exact ⟨0, by omega, rfl, by simp, HX.out⟩
              case round =>
                obtain ⟨j, hj, rfl, rfl, hxi⟩ := hrel
                have HI := Lib.hid hxi
                clear hxi
                by_cases hjl : j < T.length
                · cases hth : (T.take j).contains (lt10.getD k 0)
                  · go_wp2
                    go_quiet (fail)
                    go_wp2
                    go_roundw
                    case rel => exact ⟨j + 1, by omega, by go_num, congrArg Value.bool (chg_byte T j k hjl hlt hth _ _), HI.out.drewN _⟩
                    case measure => simp [intOf]; omega
                  · have HTH := Lib.hid hth
                    go_wp2
                    go_quiet (fail)
                    go_wp2
                    go_roundw
                    case rel => exact ⟨j + 1, by omega, by go_num, by rw [take_c hjl, HTH.out]; rfl, HI.out.drewN _⟩
                    case measure => simp [intOf]; omega
                · obtain rfl : j = T.length := by omega
                  have hat := chg_at HCH.out k hlt
                  rw [List.take_length]
                  obtain ⟨cx, cy⟩ := HI.out.at_ k hlt
                  generalize (know10 c).getD k 0 = x at *
                  generalize (know10 mc).getD k 0 = y at *
                  generalize T.contains (lt10.getD k 0) = th at *
                  by_cases he : x = y
                  · subst he
                    clear hat
                    go_wp2
                    go_quiet (fail)
                    go_wp2
                    go_roundw
                    case rel => exact ⟨k + 1, by omega, by go_num, HI.out.drewN _⟩
                    case measure => simp [intOf]; omega
                  · have hth : th = true := hat.resolve_left he
                    subst hth
                    have hd : (x != y) = true := by simpa using he
                    clear hat he
                    go_wp2
                    go_quiet (fail)
                    go_wp2
                    go_roundw
                    case rel => exact ⟨k + 1, by omega, by go_num, HI.out.drewN _⟩
                    case measure => simp [intOf]; omega
            · obtain rfl : k = 10 := by omega
              go_wp2
              go_returns
              exact ⟨rfl, HX.out.2.2⟩
      · go_wp2
        go_returns
        exact ⟨rfl, HB3.out⟩
end Go.Proofs.YtemahcjglmhefaaGreatDoor
