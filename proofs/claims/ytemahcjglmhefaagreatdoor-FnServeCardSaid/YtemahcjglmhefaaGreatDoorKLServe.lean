/- FnServe's walk. No condition. -/
import Derived.Test.YtemahcjglmhefaaGreatDoorKCur8
import Derived.Test.YtemahcjglmhefaaGreatDoorKPServe
import Derived.Test.YtemahcjglmhefaaGreatDoorKSvNo
import Derived.Test.YtemahcjglmhefaaGreatDoorKFill
namespace Go.Proofs.YtemahcjglmhefaaGreatDoor
set_option linter.unusedVariables false
set_option linter.unusedSimpArgs false
open Go.RowKit
attribute [local irreducible] World.setCell
theorem big_c (A : Option Addr) (n cap : Nat) (w : World) : Calls Tryz.prog 5 #[.slice A n cap] w fun e w' => e = .returned (.bool (decide ((1048576 : Int) < n))) ∧ w = w' := by
  go_enter Tryz.func5, Tryz.ntmps5
  go_wp2
  go_returns
  exact ⟨rfl, rfl⟩
theorem serve_out (c : Cp) (xs : List Int) (nmi : Bool) : (serveF ⟨c, xs, []⟩ nmi).ram.length = xs.length ∧ (serveF ⟨c, xs, []⟩ nmi).cy.length = 7 := by
  rw [serve_ram, serve_len]
  simp
def Apart (pc s : Int) (n k : Nat) : Prop := ∀ j : Nat, j < k → pc % (n : Int) ≠ (256 + (s - j) % 256) % (n : Int)
theorem Apart.zero (pc s : Int) (n : Nat) : Apart pc s n 0 := fun j hj => absurd hj (by omega)
theorem Apart.succ {pc s : Int} {n k : Nat} (h : Apart pc s n k) (he : pc % (n : Int) ≠ (256 + (s - k) % 256) % (n : Int)) : Apart pc s n (k + 1) := fun j hj => by
  rcases Nat.lt_succ_iff_lt_or_eq.1 hj with h1 | rfl
  · exact h j h1
  · exact he
set_option maxHeartbeats 4000000 in
set_option maxRecDepth 100000 in
theorem FnServe_c (A : Option Addr) (n cap : Nat) (xs : List Int) (w : World) (hr : Rds w .u8 A n xs) (hb : Byt xs) (hG : Gl w) :
    Calls Tryz.prog 3 #[.slice A n cap] w fun e w' => e = .returned (.bool true) ∧ Below w.heap.size w w' := by
  have HR := Lib.hid hr
  clear hr
  by_cases hn : 1048576 < n
  · have hd : decide ((1048576 : Int) < (n : Int)) = true := by simp; omega
    go_enter Tryz.func3, Tryz.ntmps3
    go_wp2_with fail
    refine (big_c A n cap _).mono ?_
    rintro e w1 ⟨rfl, rfl⟩
    rw [hd]
    go_wp2
    go_returns
    exact ⟨rfl, Below.refl _ _⟩
  · have hd : decide ((1048576 : Int) < (n : Int)) = false := by simp; omega
    have HN := Lib.hid (show n ≤ 1048576 by omega)
    clear hn
    go_enter Tryz.func3, Tryz.ntmps3
    go_wp2_with fail
    refine (big_c A n cap _).mono ?_
    rintro e w1 ⟨rfl, rfl⟩
    rw [hd]
    clear hd
    go_wp2_with fail
    refine (DrawServe_c A n cap xs _ HR.out hb HN.out).mono ?_
    rintro e w1 ⟨c, v, ys, nmi, hok, rfl, hl, hby, hown, hB1⟩
    obtain ⟨vA, vc, rfl⟩ := own_shape hown
    have ha : Below w1.heap.size w1 ((w1.alloc (.cells #[.int .u8 c.a, .int .u8 c.x, .int .u8 c.y, .int .u8 c.s, .int .u16 c.pc, .bool c.f.n, .bool c.f.v, .bool c.f.d, .bool c.f.i, .bool c.f.z, .bool c.f.c] 28)).alloc (.cells #[.slice vA ys.length vc] 30)) := Dn.trans (Dn.al w1 _) (Dn.al _ _)
    have kp := (Bk.new w1 28 #[.int .u8 c.a, .int .u8 c.x, .int .u8 c.y, .int .u8 c.s, .int .u16 c.pc, .bool c.f.n, .bool c.f.v, .bool c.f.d, .bool c.f.i, .bool c.f.z, .bool c.f.c]).al (.cells #[.slice vA ys.length vc] 30)
    have kr := Bk.new1 w1 (.cells #[.int .u8 c.a, .int .u8 c.x, .int .u8 c.y, .int .u8 c.s, .int .u16 c.pc, .bool c.f.n, .bool c.f.v, .bool c.f.d, .bool c.f.i, .bool c.f.z, .bool c.f.c] 28) 30 #[.slice vA ys.length vc]
    have HW := Lib.hid (own_later hown ha)
    have HB := Lib.hid (Dn.trans hB1 ha)
    have hsz : w.heap.size ≤ w1.heap.size := hB1.size
    clear hown hB1 ha
    go_wp2_with fail
    generalize (w1.alloc (.cells #[.int .u8 c.a, .int .u8 c.x, .int .u8 c.y, .int .u8 c.s, .int .u16 c.pc, .bool c.f.n, .bool c.f.v, .bool c.f.d, .bool c.f.i, .bool c.f.z, .bool c.f.c] 28)).alloc (.cells #[.slice vA ys.length vc] 30) = w2 at *
    generalize w1.heap.size = pb at *
    cases hs : okSizeB ys.length
    · have HS := Lib.hid hs
      refine (Serve_no c vA ys.length vc (by omega) hs _ nmi).mono ?_
      clear hs
      rintro e w3 ⟨X, k, rfl, hb3⟩
      have kr3 := kr.later hb3
      have HB3 := Lib.hid (HB.out.trans (hb3.mono HB.out.size))
      have cp := (kp.later hb3).cell
      have cr := kr3.cell 0
      have h1 := (kp.later hb3).lt
      have h2 := kr3.lt
      have h1a : pb < w3.heap.size + 1 := by omega
      have h2a : pb + 1 < w3.heap.size + 1 := by omega
      have ha : Below w3.heap.size w3 ((w3.alloc (.cells #[.int .u8 0, .int .u8 0, .int .u8 0, .int .u8 0, .int .u16 0, .bool false, .bool false, .bool false, .bool false, .bool false, .bool false] 28)).alloc (.cells #[.slice none 0 0] 30)) := Dn.trans (Dn.al w3 _) (Dn.al _ _)
      have kq := (Bk.new w3 28 #[.int .u8 0, .int .u8 0, .int .u8 0, .int .u8 0, .int .u16 0, .bool false, .bool false, .bool false, .bool false, .bool false, .bool false]).al (.cells #[.slice none 0 0] 30)
      have kr4 := kr3.later ha
      clear hb3 kp kr kr3 HB HW
      go_wp2_with fail
      refine (sServe_no c vA ys.length vc (by omega) HS.out _ nmi).mono ?_
      rintro e w4 ⟨Y, k2, rfl, hb4⟩
      have cq := (kq.later hb4).cell
      have cr4 := (kr4.later hb4).cell 0
      have h3 := (kq.later hb4).lt
      have h4 := (kr4.later hb4).lt
      have h3a : w3.heap.size < w4.heap.size + 1 := by omega
      have h4a : pb + 1 < w4.heap.size + 1 := by omega
      have HB4 := Lib.hid (HB3.out.trans ((ha.trans (hb4.mono ha.size)).mono HB3.out.size))
      clear hb4 ha kq kr4 cp cr HB3
      generalize w3.heap.size = qb at *
      go_wp2_with fail
      refine (sRamOk_c vA ys.length vc (by omega) _).mono ?_
      rintro e w5 ⟨rfl, hb5⟩
      rw [HS.out]
      have HB5 := Lib.hid ((Bl.al (Bl.al HB4.out (Nat.le_refl _) _) (Nat.le_refl _) _).trans (hb5.mono (by simp; have := HB4.out.size; omega)))
      clear hb5
      go_wp2
      go_returns
      exact ⟨rfl, HB5.out⟩
    · have HS := Lib.hid ((okSizeB_iff ys.length).1 hs)
      have HSB := Lib.hid hs
      clear hs
      obtain ⟨g, vc', e, _⟩ := HW.out.form (by have := HS.out; unfold okSize at this; omega)
      cases e
      obtain ⟨m, hm⟩ : ∃ m, m = serveF ⟨c, ys, []⟩ nmi := ⟨_, rfl⟩
      have hmo := serve_out c ys nmi
      rw [← hm] at hmo
      obtain ⟨hml, hmc⟩ := hmo
      have hS1 := Serve_c c ⟨g, 0, none⟩ ys.length vc ys hok HS.out hby w2 (own_rd HW.out) (hG.later HB.out) nmi
      rw [← hm] at hS1
      refine hS1.mono ?_
      clear hS1
      rintro e w3 ⟨g2, cap2, cv2, he, hown3, hcy3, hb3, hmok, hmby, hms⟩
      obtain ⟨c2A, c2c, rfl⟩ := own_shape hcy3
      rw [hml, hmc] at he
      rw [hml] at hown3
      subst he
      have HM := Lib.hid hm
      have HMB := Lib.hid hmby
      have HML := Lib.hid hml
      clear hm hms hcy3 hmc hml hmby
      have hs2 : w.heap.size ≤ w2.heap.size := HB.out.size
      have HB3 := Lib.hid (HB.out.trans (hb3.mono hs2))
      have HR3 := Lib.hid (own_rd (own_later HW.out hb3))
      have kp3 := kp.later hb3
      have kr3 := kr.later hb3
      have cp := kp3.cell
      have cr := kr3.cell 0
      have h1 := kp3.lt
      have h2 := kr3.lt
      have h1a : pb < w3.heap.size + 1 := by omega
      have h2a : pb + 1 < w3.heap.size + 1 := by omega
      have ha : Below w3.heap.size w3 ((w3.alloc (.cells #[.int .u8 m.c.a, .int .u8 m.c.x, .int .u8 m.c.y, .int .u8 m.c.s, .int .u16 m.c.pc, .bool m.c.f.n, .bool m.c.f.v, .bool m.c.f.d, .bool m.c.f.i, .bool m.c.f.z, .bool m.c.f.c] 28)).alloc (.cells #[.slice (some ⟨g2, 0, none⟩) ys.length cap2] 30)) := Dn.trans (Dn.al w3 _) (Dn.al _ _)
      have kq := (Bk.new w3 28 #[.int .u8 m.c.a, .int .u8 m.c.x, .int .u8 m.c.y, .int .u8 m.c.s, .int .u16 m.c.pc, .bool m.c.f.n, .bool m.c.f.v, .bool m.c.f.d, .bool m.c.f.i, .bool m.c.f.z, .bool m.c.f.c]).al (.cells #[.slice (some ⟨g2, 0, none⟩) ys.length cap2] 30)
      have ks := Bk.new1 w3 (.cells #[.int .u8 m.c.a, .int .u8 m.c.x, .int .u8 m.c.y, .int .u8 m.c.s, .int .u16 m.c.pc, .bool m.c.f.n, .bool m.c.f.v, .bool m.c.f.d, .bool m.c.f.i, .bool m.c.f.z, .bool m.c.f.c] 28) 30 #[.slice (some ⟨g2, 0, none⟩) ys.length cap2]
      have kp4 := kp3.later ha
      have kr4 := kr3.later ha
      have HW4 := Lib.hid (own_later (own_more hown3 (b2 := w.heap.size) hs2) ha)
      have hS2 := sServe_c c ⟨g, 0, none⟩ ys.length vc ys hok HS.out hby _ (HR3.out.later ha) (hG.later (HB3.out.trans (ha.mono HB3.out.size))) nmi
      rw [← HM.out] at hS2
      have H2 := Lib.hid hS2
      clear hS2 hb3 kp kr kp3 kr3 HB HW hown3 HR3
      go_wp2_with fail
      refine H2.out.mono ?_
      rintro e w4 ⟨g3, cap3, cv3, rfl, _, _, hb4, _, _, _⟩
      have kp5 := kp4.later hb4
      have kr5 := kr4.later hb4
      have kq5 := kq.later hb4
      have ks5 := ks.later hb4
      have HW5 := Lib.hid (own_later HW4.out hb4)
      have HB4 := Lib.hid (HB3.out.trans ((ha.trans (hb4.mono ha.size)).mono HB3.out.size))
      clear H2 hb4 ha kq ks kp4 kr4 HW4 HB3 cp cr
      have hpq : pb + 1 < w3.heap.size := h2
      generalize w3.heap.size = qb at *
      have cq := kq5.cell
      have cr := kr5.cell 0
      have h3 := kq5.lt
      have h4 := kr5.lt
      have h3a : qb < w4.heap.size + 1 := by omega
      have h4a : pb + 1 < w4.heap.size + 1 := by omega
      go_wp2_with fail
      have ha : Below w4.heap.size w4 ((w4.alloc (.cells #[.int .u8 m.c.a, .int .u8 m.c.x, .int .u8 m.c.y, .int .u8 m.c.s, .int .u16 m.c.pc, .bool m.c.f.n, .bool m.c.f.v, .bool m.c.f.d, .bool m.c.f.i, .bool m.c.f.z, .bool m.c.f.c] 28)).alloc (.cells #[.slice (some ⟨g3, 0, none⟩) m.ram.length cap3] 30)) := Dn.trans (Dn.al w4 _) (Dn.al _ _)
      refine (sRamOk_c (some ⟨g, 0, none⟩) ys.length vc (by omega) _).mono ?_
      rintro e w5 ⟨rfl, hb5⟩
      rw [HSB.out]
      have hc := Dn.trans ha hb5
      have kp6 := kp5.later hc
      have kr6 := kr5.later hc
      have kq6 := kq5.later hc
      have ks6 := ks5.later hc
      have HW6 := Lib.hid (own_later HW5.out hc)
      have HB6 := Lib.hid (HB4.out.trans (hc.mono HB4.out.size))
      clear ha hb5 hc kp5 kr5 kq5 ks5 HW5 HB4 cq cr h1 h2 h1a h2a h3a h4a
      have cp := kp6.cell
      have cq := kq6.cell
      have cs := ks6.cell 0
      have hpc : 0 ≤ m.c.pc ∧ m.c.pc < 65536 := by unfold Cp.ok at hmok; omega
      have hn0 : 0 < ys.length ∧ ys.length ≤ 4096 := by have := HS.out; unfold okSize at this; omega
      have hne0 : ys ≠ [] := by intro e; rw [e] at hn0; simp at hn0
      go_wp2_with fail
      have hsb : 0 ≤ c.s ∧ c.s < 256 := by unfold Cp.ok at hok; omega
      go_loop [13] (fun i => ∃ k : Nat, k ≤ 3 ∧ i = .int .i64 k ∧ Apart m.c.pc c.s ys.length k) (fun i => 3 - (intOf i).toNat)
      case atStart => exact ⟨0, by omega, rfl, Apart.zero _ _ _⟩
      case round =>
        obtain ⟨k, hk, rfl, hap⟩ := hrel
        have HA := Lib.hid hap
        clear hap
        by_cases hlt : k < 3
        · have e0 := and255 (c.s - k)
          have hx0 : 0 ≤ (256 + (c.s - k) % 256) % (ys.length : Int) := Int.emod_nonneg _ (by omega)
          have hx1 : (256 + (c.s - k) % 256) % (ys.length : Int) < (ys.length : Int) := Int.emod_lt_of_pos _ (by omega)
          by_cases he : m.c.pc % (ys.length : Int) = (256 + (c.s - k) % 256) % (ys.length : Int)
          · have hd : (m.c.pc % (ys.length : Int) == (256 + (c.s - k) % 256) % (ys.length : Int)) = true := by simpa using he
            clear he
            go_wp2
            go_returns
            exact ⟨rfl, HB6.out⟩
          · have hd : (m.c.pc % (ys.length : Int) == (256 + (c.s - k) % 256) % (ys.length : Int)) = false := by simpa using he
            have HE := Lib.hid he
            clear he
            go_wp2
            go_round
            case rel => exact ⟨k + 1, by omega, by go_num, HA.out.succ HE.out⟩
            case measure => simp [intOf]; omega
        · obtain rfl : k = 3 := by omega
          go_wp2_with fail
          have hP := Poke_c ⟨g2, 0, none⟩ cap2 m.ram (by rw [HML.out]; exact HS.out) m.c.pc hpc.1 hpc.2 64 w5 (by rw [HML.out]; exact own_rd HW6.out)
          rw [HML.out] at hP
          refine hP.mono ?_
          clear hP
          rintro e w7 ⟨g4, cap4, rfl, hown7, hb7⟩
          have hk := serve_law c ys nmi HS.out hok (by rw [← HM.out]; exact hpc) (by rw [← HM.out]; exact fun i hi => HA.out i hi)
          rw [← HM.out] at hk
          have hzl : (fillF m.ram m.c.pc [64]).length = ys.length := by rw [← HML.out]; exact fillN_length _ _ _ _
          have hzb : Byt (fillF m.ram m.c.pc [64]) := fillN_byt HMB.out _ (by intro q hq; simp at hq; omega) _
          generalize fillF m.ram m.c.pc [64] = z at *
          have HK := Lib.hid hk
          have HSZ := Lib.hid (show okSize z.length by rw [hzl]; exact HS.out)
          have HZB := Lib.hid hzb
          clear hk hzl hzb HM HML HMB HA
          have kp7 := kp6.later hb7
          have kq7 := kq6.later hb7
          have ks7 := ks6.later hb7
          have hs5 : w.heap.size ≤ w5.heap.size := HB6.out.size
          have hqlt := ks6.lt
          have hqpb : w.heap.size ≤ qb + 1 := by omega
          have hne7 := own_apart hown7 ks7 (by decide)
          have ks8 : Bk (w7.setCell ⟨qb + 1, 0, none⟩ (.slice (some ⟨g4, 0, none⟩) z.length cap4)) (qb + 1) 30 #[.slice (some ⟨g4, 0, none⟩) z.length cap4] := ks7.put 0 _
          have kq8 := kq7.far (p := ⟨qb + 1, 0, none⟩) (by simp) (.slice (some ⟨g4, 0, none⟩) z.length cap4)
          have kp8 := kp7.far (p := ⟨qb + 1, 0, none⟩) (by show pb ≠ qb + 1; omega) (.slice (some ⟨g4, 0, none⟩) z.length cap4)
          have HW8 := Lib.hid (own_far (p := ⟨qb + 1, 0, none⟩) (own_more hown7 (b2 := w.heap.size) hs5) hne7 (.slice (some ⟨g4, 0, none⟩) z.length cap4))
          have HB8 := Lib.hid ((HB6.out.trans (hb7.mono hs5)).setCell (p := ⟨qb + 1, 0, none⟩) hqpb (.slice (some ⟨g4, 0, none⟩) z.length cap4))
          have c7 := ks7.cell 0
          have f7 := ks7.frozen 0
          have cq7 := kq7.cell
          clear hown7 hb7 kp6 kq6 ks6 HB6 HW6 kp7 kq7 ks7 hne7 cp cq cs
          go_wp2_with fail
          generalize w7.setCell ⟨qb + 1, 0, none⟩ (.slice (some ⟨g4, 0, none⟩) z.length cap4) = w8 at *
          clear c7 f7 cq7
          refine (Step_c m.c ⟨g4, 0, none⟩ z.length cap4 z hmok HSZ.out HZB.out _ (own_rd HW8.out) (hG.later HB8.out)).mono ?_
          rintro e w9 ⟨g5, cap5, cv5, he, _, _, hb9, _, _, _⟩
          rw [HK.out] at he
          subst he
          have kp9 := kp8.later hb9
          have HB9 := Lib.hid (HB8.out.trans (hb9.mono HB8.out.size))
          have cp := kp9.cell
          have h1 := kp9.lt
          have h1a : pb < w9.heap.size + 1 := by omega
          have h1b : pb < w9.heap.size + 1 + 1 := by omega
          generalize StepF m.c z = k at *
          clear hb9 kp8 kq8 ks8 kp9 HB8 HW8
          go_wp2
          go_returns
          exact ⟨rfl, Bl.al (Bl.al HB9.out (Nat.le_refl _) _) (Nat.le_refl _) _⟩
end Go.Proofs.YtemahcjglmhefaaGreatDoor
