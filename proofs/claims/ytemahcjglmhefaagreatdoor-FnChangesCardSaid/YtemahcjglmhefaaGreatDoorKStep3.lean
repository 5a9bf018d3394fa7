/- The machine's step. No condition. -/
import Derived.Test.YtemahcjglmhefaaGreatDoorKFlow2
import Derived.Test.YtemahcjglmhefaaGreatDoorKOp
namespace Go.Proofs.YtemahcjglmhefaaGreatDoor
set_option linter.unusedVariables false
set_option linter.unusedSimpArgs false
open Go.RowKit
attribute [local irreducible] World.setCell

set_option maxHeartbeats 1000000 in
set_option maxRecDepth 100000 in
theorem step_1 {B : Nat} {w0 w : World} {b g : Nat} {m : Ms} (h : St B w0 b g m w) (hl : m.cy.length < 700000) (hk : kindF (opF (m.look m.c.pc)) = 1) :
    Calls Tryz.prog 28 #[.pointer (some ⟨b, 0, none⟩)] w fun e w' => e = .returned (.tuple #[]) ∧ St B w0 b g (stepF m) w' := by
  have hA := h.cok
  have hpc : 0 ≤ m.c.pc ∧ m.c.pc < 65536 := by unfold Cp.ok at hA; omega
  have hcd := Ms.look_ok h.byt m.c.pc
  have hsz := size_ok (opF (m.look m.c.pc)).2
  have hop := operation_c (m.look m.c.pc) hcd.1 hcd.2
  have hkd := KindOf_c (m.look m.c.pc) hcd.1 hcd.2
  have hsi := SizeOf_c (m.look m.c.pc) hcd.1 hcd.2
  have HS : Hid (stepF m = stepBy (opF (m.look m.c.pc)) (m.read m.c.pc)) := rfl
  have hlen := read_len m m.c.pc
  obtain ⟨cap, cv, hc, hf, _, _⟩ := h.open_
  go_enter Tryz.func28, Tryz.ntmps28
  go_wp2_with fail
  refine (read_c h m.c.pc hpc.1 hpc.2 (by omega)).mono ?_
  rintro e w1 ⟨rfl, s1⟩
  generalize m.read m.c.pc = m1 at *
  generalize m.look m.c.pc = code at *
  go_wp2_with fail
  refine (hop _ s1.gl).mono ?_
  rintro e w2 ⟨rfl, hb2⟩
  have s2 := s1.later hb2
  clear s1 hb2
  go_wp2_with fail
  refine (hkd _ s2.gl).mono ?_
  rintro e w3 ⟨rfl, hb3⟩
  have s3 := s2.later hb3
  have hA1 := s3.cok
  have hpc1 : 0 ≤ m1.c.pc ∧ m1.c.pc < 65536 := by unfold Cp.ok at hA1; omega
  have p1 := wrap_u16 (m1.c.pc + 1)
  have o1 := u16_ok (m1.c.pc + 1)
  obtain ⟨cap3, cv3, s3c, s3f, _, _⟩ := s3.open_
  clear s2 hb3 hop hkd
  generalize hr : opF code = r at *
  clear hr
  have HK : Hid (stepBy r m1 = ((m1.read (u16 (m1.c.pc + 1))).imp r.1).on (sizeF r.2)) := by simp only [Hid, stepBy, hk, if_true]
  go_wp2_with fail
  refine (read_c s3 (u16 (m1.c.pc + 1)) o1.1 o1.2 (by omega)).mono ?_
  rintro e w4 ⟨rfl, s4⟩
  go_wp2_with fail
  refine (imp_c s4 r.1).mono ?_
  rintro e w5 ⟨rfl, s5⟩
  clear s3c s3f p1 s3 s4
  generalize (m1.read (u16 (m1.c.pc + 1))).imp r.1 = q at *
  have hAq := s5.cok
  have hpq : 0 ≤ q.c.pc ∧ q.c.pc < 65536 := by unfold Cp.ok at hAq; omega
  have pq := wrap_u16 (q.c.pc + sizeF r.2)
  have pz : IntKind.u16.wrap (sizeF r.2) = sizeF r.2 := (wrap_u16 _).trans (Int.emod_eq_of_lt hsz.1 (by omega))
  have oq := u16_ok (q.c.pc + sizeF r.2)
  obtain ⟨capq, cvq, sqc, sqf, _, _⟩ := s5.open_
  go_wp2_with fail
  go_region_with (go_at_call 61; refine (hsi _ s5.drew.gl).mono ?_; rintro e w9 ⟨rfl, hb9⟩; have s9 := s5.drew.later hb9; obtain ⟨cap9, cv9, s9c, s9f, _, _⟩ := s9.open_; have S9 := Lib.hid (s9.setPC' oq); clear s9 hb9)
  all_goals go_wp2
  all_goals go_returns
  all_goals rw [HS.out, HK.out]
  all_goals exact ⟨rfl, S9.out⟩
set_option maxHeartbeats 1000000 in
set_option maxRecDepth 100000 in
theorem step_11 {B : Nat} {w0 w : World} {b g : Nat} {m : Ms} (h : St B w0 b g m w) (hl : m.cy.length < 700000) (hk : kindF (opF (m.look m.c.pc)) = 11) :
    Calls Tryz.prog 28 #[.pointer (some ⟨b, 0, none⟩)] w fun e w' => e = .returned (.tuple #[]) ∧ St B w0 b g (stepF m) w' := by
  have hA := h.cok
  have hpc : 0 ≤ m.c.pc ∧ m.c.pc < 65536 := by unfold Cp.ok at hA; omega
  have hcd := Ms.look_ok h.byt m.c.pc
  have hsz := size_ok (opF (m.look m.c.pc)).2
  have hop := operation_c (m.look m.c.pc) hcd.1 hcd.2
  have hkd := KindOf_c (m.look m.c.pc) hcd.1 hcd.2
  have hsi := SizeOf_c (m.look m.c.pc) hcd.1 hcd.2
  have HS : Hid (stepF m = stepBy (opF (m.look m.c.pc)) (m.read m.c.pc)) := rfl
  have hlen := read_len m m.c.pc
  obtain ⟨cap, cv, hc, hf, _, _⟩ := h.open_
  go_enter Tryz.func28, Tryz.ntmps28
  go_wp2_with fail
  refine (read_c h m.c.pc hpc.1 hpc.2 (by omega)).mono ?_
  rintro e w1 ⟨rfl, s1⟩
  generalize m.read m.c.pc = m1 at *
  generalize m.look m.c.pc = code at *
  go_wp2_with fail
  refine (hop _ s1.gl).mono ?_
  rintro e w2 ⟨rfl, hb2⟩
  have s2 := s1.later hb2
  clear s1 hb2
  go_wp2_with fail
  refine (hkd _ s2.gl).mono ?_
  rintro e w3 ⟨rfl, hb3⟩
  have s3 := s2.later hb3
  have hA1 := s3.cok
  have hpc1 : 0 ≤ m1.c.pc ∧ m1.c.pc < 65536 := by unfold Cp.ok at hA1; omega
  have p1 := wrap_u16 (m1.c.pc + 1)
  have o1 := u16_ok (m1.c.pc + 1)
  obtain ⟨cap3, cv3, s3c, s3f, _, _⟩ := s3.open_
  clear s2 hb3 hop hkd
  generalize hr : opF code = r at *
  clear hr
  have HK : Hid (stepBy r m1 = (pushF r.1 m1).on (sizeF r.2)) := by simp [Hid, stepBy, hk]
  go_wp2_with fail
  refine (pushOne_c s3 r.1 (by omega)).mono ?_
  rintro e w5 ⟨rfl, s5⟩
  clear s3c s3f p1 s3
  generalize pushF r.1 m1 = q at *
  have hAq := s5.cok
  have hpq : 0 ≤ q.c.pc ∧ q.c.pc < 65536 := by unfold Cp.ok at hAq; omega
  have pq := wrap_u16 (q.c.pc + sizeF r.2)
  have pz : IntKind.u16.wrap (sizeF r.2) = sizeF r.2 := (wrap_u16 _).trans (Int.emod_eq_of_lt hsz.1 (by omega))
  have oq := u16_ok (q.c.pc + sizeF r.2)
  obtain ⟨capq, cvq, sqc, sqf, _, _⟩ := s5.open_
  go_wp2_with fail
  go_region_with (go_at_call 61; refine (hsi _ s5.drew.gl).mono ?_; rintro e w9 ⟨rfl, hb9⟩; have s9 := s5.drew.later hb9; obtain ⟨cap9, cv9, s9c, s9f, _, _⟩ := s9.open_; have S9 := Lib.hid (s9.setPC' oq); clear s9 hb9)
  all_goals go_wp2
  all_goals go_returns
  all_goals rw [HS.out, HK.out]
  all_goals exact ⟨rfl, S9.out⟩
set_option maxHeartbeats 1000000 in
set_option maxRecDepth 100000 in
theorem step_12 {B : Nat} {w0 w : World} {b g : Nat} {m : Ms} (h : St B w0 b g m w) (hl : m.cy.length < 700000) (hk : kindF (opF (m.look m.c.pc)) = 12) :
    Calls Tryz.prog 28 #[.pointer (some ⟨b, 0, none⟩)] w fun e w' => e = .returned (.tuple #[]) ∧ St B w0 b g (stepF m) w' := by
  have hA := h.cok
  have hpc : 0 ≤ m.c.pc ∧ m.c.pc < 65536 := by unfold Cp.ok at hA; omega
  have hcd := Ms.look_ok h.byt m.c.pc
  have hsz := size_ok (opF (m.look m.c.pc)).2
  have hop := operation_c (m.look m.c.pc) hcd.1 hcd.2
  have hkd := KindOf_c (m.look m.c.pc) hcd.1 hcd.2
  have hsi := SizeOf_c (m.look m.c.pc) hcd.1 hcd.2
  have HS : Hid (stepF m = stepBy (opF (m.look m.c.pc)) (m.read m.c.pc)) := rfl
  have hlen := read_len m m.c.pc
  obtain ⟨cap, cv, hc, hf, _, _⟩ := h.open_
  go_enter Tryz.func28, Tryz.ntmps28
  go_wp2_with fail
  refine (read_c h m.c.pc hpc.1 hpc.2 (by omega)).mono ?_
  rintro e w1 ⟨rfl, s1⟩
  generalize m.read m.c.pc = m1 at *
  generalize m.look m.c.pc = code at *
  go_wp2_with fail
  refine (hop _ s1.gl).mono ?_
  rintro e w2 ⟨rfl, hb2⟩
  have s2 := s1.later hb2
  clear s1 hb2
  go_wp2_with fail
  refine (hkd _ s2.gl).mono ?_
  rintro e w3 ⟨rfl, hb3⟩
  have s3 := s2.later hb3
  have hA1 := s3.cok
  have hpc1 : 0 ≤ m1.c.pc ∧ m1.c.pc < 65536 := by unfold Cp.ok at hA1; omega
  have p1 := wrap_u16 (m1.c.pc + 1)
  have o1 := u16_ok (m1.c.pc + 1)
  obtain ⟨cap3, cv3, s3c, s3f, _, _⟩ := s3.open_
  clear s2 hb3 hop hkd
  generalize hr : opF code = r at *
  clear hr
  have HK : Hid (stepBy r m1 = (pullF r.1 m1).on (sizeF r.2)) := by simp [Hid, stepBy, hk]
  go_wp2_with fail
  refine (pull_c s3 r.1 (by omega)).mono ?_
  rintro e w5 ⟨rfl, s5⟩
  clear s3c s3f p1 s3
  generalize pullF r.1 m1 = q at *
  have hAq := s5.cok
  have hpq : 0 ≤ q.c.pc ∧ q.c.pc < 65536 := by unfold Cp.ok at hAq; omega
  have pq := wrap_u16 (q.c.pc + sizeF r.2)
  have pz : IntKind.u16.wrap (sizeF r.2) = sizeF r.2 := (wrap_u16 _).trans (Int.emod_eq_of_lt hsz.1 (by omega))
  have oq := u16_ok (q.c.pc + sizeF r.2)
  obtain ⟨capq, cvq, sqc, sqf, _, _⟩ := s5.open_
  go_wp2_with fail
  go_region_with (go_at_call 61; refine (hsi _ s5.drew.gl).mono ?_; rintro e w9 ⟨rfl, hb9⟩; have s9 := s5.drew.later hb9; obtain ⟨cap9, cv9, s9c, s9f, _, _⟩ := s9.open_; have S9 := Lib.hid (s9.setPC' oq); clear s9 hb9)
  all_goals go_wp2
  all_goals go_returns
  all_goals rw [HS.out, HK.out]
  all_goals exact ⟨rfl, S9.out⟩
set_option maxHeartbeats 1000000 in
set_option maxRecDepth 100000 in
theorem step_2i {B : Nat} {w0 w : World} {b g : Nat} {m : Ms} (h : St B w0 b g m w) (hl : m.cy.length < 700000) (hk : kindF (opF (m.look m.c.pc)) = 2) (hm : (opF (m.look m.c.pc)).2 = 2) :
    Calls Tryz.prog 28 #[.pointer (some ⟨b, 0, none⟩)] w fun e w' => e = .returned (.tuple #[]) ∧ St B w0 b g (stepF m) w' := by
  have hA := h.cok
  have hpc : 0 ≤ m.c.pc ∧ m.c.pc < 65536 := by unfold Cp.ok at hA; omega
  have hcd := Ms.look_ok h.byt m.c.pc
  have hsz := size_ok (opF (m.look m.c.pc)).2
  have hop := operation_c (m.look m.c.pc) hcd.1 hcd.2
  have hkd := KindOf_c (m.look m.c.pc) hcd.1 hcd.2
  have hsi := SizeOf_c (m.look m.c.pc) hcd.1 hcd.2
  have HS : Hid (stepF m = stepBy (opF (m.look m.c.pc)) (m.read m.c.pc)) := rfl
  have hlen := read_len m m.c.pc
  obtain ⟨cap, cv, hc, hf, _, _⟩ := h.open_
  go_enter Tryz.func28, Tryz.ntmps28
  go_wp2_with fail
  refine (read_c h m.c.pc hpc.1 hpc.2 (by omega)).mono ?_
  rintro e w1 ⟨rfl, s1⟩
  generalize m.read m.c.pc = m1 at *
  generalize m.look m.c.pc = code at *
  go_wp2_with fail
  refine (hop _ s1.gl).mono ?_
  rintro e w2 ⟨rfl, hb2⟩
  have s2 := s1.later hb2
  clear s1 hb2
  go_wp2_with fail
  refine (hkd _ s2.gl).mono ?_
  rintro e w3 ⟨rfl, hb3⟩
  have s3 := s2.later hb3
  have hA1 := s3.cok
  have hpc1 : 0 ≤ m1.c.pc ∧ m1.c.pc < 65536 := by unfold Cp.ok at hA1; omega
  have p1 := wrap_u16 (m1.c.pc + 1)
  have o1 := u16_ok (m1.c.pc + 1)
  obtain ⟨cap3, cv3, s3c, s3f, _, _⟩ := s3.open_
  clear s2 hb3 hop hkd
  generalize hr : opF code = r at *
  clear hr
  have HK : Hid (stepBy r m1 = (operF 2 2 r.1 m1).on (sizeF r.2)) := by simp [Hid, stepBy, hk, hm]
  go_wp2_with fail
  refine (operate_imm s3 2 2 r.1 (by omega) rfl).mono ?_
  rintro e w5 ⟨rfl, s5⟩
  clear s3c s3f p1 s3 hm
  generalize operF 2 2 r.1 m1 = q at *
  have hAq := s5.cok
  have hpq : 0 ≤ q.c.pc ∧ q.c.pc < 65536 := by unfold Cp.ok at hAq; omega
  have pq := wrap_u16 (q.c.pc + sizeF r.2)
  have pz : IntKind.u16.wrap (sizeF r.2) = sizeF r.2 := (wrap_u16 _).trans (Int.emod_eq_of_lt hsz.1 (by omega))
  have oq := u16_ok (q.c.pc + sizeF r.2)
  obtain ⟨capq, cvq, sqc, sqf, _, _⟩ := s5.open_
  go_wp2_with fail
  go_region_with (go_at_call 61; refine (hsi _ s5.drew.gl).mono ?_; rintro e w9 ⟨rfl, hb9⟩; have s9 := s5.drew.later hb9; obtain ⟨cap9, cv9, s9c, s9f, _, _⟩ := s9.open_; have S9 := Lib.hid (s9.setPC' oq); clear s9 hb9)
  all_goals go_wp2
  all_goals go_returns
  all_goals rw [HS.out, HK.out]
  all_goals exact ⟨rfl, S9.out⟩
set_option maxHeartbeats 1000000 in
set_option maxRecDepth 100000 in
theorem step_2 {B : Nat} {w0 w : World} {b g : Nat} {m : Ms} (h : St B w0 b g m w) (hl : m.cy.length < 700000) (hk : kindF (opF (m.look m.c.pc)) = 2) (hm : placeMode (opF (m.look m.c.pc)).2 = true) :
    Calls Tryz.prog 28 #[.pointer (some ⟨b, 0, none⟩)] w fun e w' => e = .returned (.tuple #[]) ∧ St B w0 b g (stepF m) w' := by
  have hA := h.cok
  have hpc : 0 ≤ m.c.pc ∧ m.c.pc < 65536 := by unfold Cp.ok at hA; omega
  have hcd := Ms.look_ok h.byt m.c.pc
  have hsz := size_ok (opF (m.look m.c.pc)).2
  have hop := operation_c (m.look m.c.pc) hcd.1 hcd.2
  have hkd := KindOf_c (m.look m.c.pc) hcd.1 hcd.2
  have hsi := SizeOf_c (m.look m.c.pc) hcd.1 hcd.2
  have HS : Hid (stepF m = stepBy (opF (m.look m.c.pc)) (m.read m.c.pc)) := rfl
  have hlen := read_len m m.c.pc
  obtain ⟨cap, cv, hc, hf, _, _⟩ := h.open_
  go_enter Tryz.func28, Tryz.ntmps28
  go_wp2_with fail
  refine (read_c h m.c.pc hpc.1 hpc.2 (by omega)).mono ?_
  rintro e w1 ⟨rfl, s1⟩
  generalize m.read m.c.pc = m1 at *
  generalize m.look m.c.pc = code at *
  go_wp2_with fail
  refine (hop _ s1.gl).mono ?_
  rintro e w2 ⟨rfl, hb2⟩
  have s2 := s1.later hb2
  clear s1 hb2
  go_wp2_with fail
  refine (hkd _ s2.gl).mono ?_
  rintro e w3 ⟨rfl, hb3⟩
  have s3 := s2.later hb3
  have hA1 := s3.cok
  have hpc1 : 0 ≤ m1.c.pc ∧ m1.c.pc < 65536 := by unfold Cp.ok at hA1; omega
  have p1 := wrap_u16 (m1.c.pc + 1)
  have o1 := u16_ok (m1.c.pc + 1)
  obtain ⟨cap3, cv3, s3c, s3f, _, _⟩ := s3.open_
  clear s2 hb3 hop hkd
  generalize hr : opF code = r at *
  clear hr
  have HK : Hid (stepBy r m1 = (operF 2 r.2 r.1 m1).on (sizeF r.2)) := by simp [Hid, stepBy, hk]
  go_wp2_with fail
  refine (operate_2 s3 2 r.2 rfl r.1 (by omega) ((placeMode_iff _).1 hm)).mono ?_
  rintro e w5 ⟨rfl, s5⟩
  clear s3c s3f p1 s3
  generalize operF 2 r.2 r.1 m1 = q at *
  have hAq := s5.cok
  have hpq : 0 ≤ q.c.pc ∧ q.c.pc < 65536 := by unfold Cp.ok at hAq; omega
  have pq := wrap_u16 (q.c.pc + sizeF r.2)
  have pz : IntKind.u16.wrap (sizeF r.2) = sizeF r.2 := (wrap_u16 _).trans (Int.emod_eq_of_lt hsz.1 (by omega))
  have oq := u16_ok (q.c.pc + sizeF r.2)
  obtain ⟨capq, cvq, sqc, sqf, _, _⟩ := s5.open_
  go_wp2_with fail
  go_region_with (go_at_call 61; refine (hsi _ s5.drew.gl).mono ?_; rintro e w9 ⟨rfl, hb9⟩; have s9 := s5.drew.later hb9; obtain ⟨cap9, cv9, s9c, s9f, _, _⟩ := s9.open_; have S9 := Lib.hid (s9.setPC' oq); clear s9 hb9)
  all_goals go_wp2
  all_goals go_returns
  all_goals rw [HS.out, HK.out]
  all_goals exact ⟨rfl, S9.out⟩
set_option maxHeartbeats 1000000 in
set_option maxRecDepth 100000 in
theorem step_4 {B : Nat} {w0 w : World} {b g : Nat} {m : Ms} (h : St B w0 b g m w) (hl : m.cy.length < 700000) (hk : kindF (opF (m.look m.c.pc)) = 4) (hm : placeMode (opF (m.look m.c.pc)).2 = true) :
    Calls Tryz.prog 28 #[.pointer (some ⟨b, 0, none⟩)] w fun e w' => e = .returned (.tuple #[]) ∧ St B w0 b g (stepF m) w' := by
  have hA := h.cok
  have hpc : 0 ≤ m.c.pc ∧ m.c.pc < 65536 := by unfold Cp.ok at hA; omega
  have hcd := Ms.look_ok h.byt m.c.pc
  have hsz := size_ok (opF (m.look m.c.pc)).2
  have hop := operation_c (m.look m.c.pc) hcd.1 hcd.2
  have hkd := KindOf_c (m.look m.c.pc) hcd.1 hcd.2
  have hsi := SizeOf_c (m.look m.c.pc) hcd.1 hcd.2
  have HS : Hid (stepF m = stepBy (opF (m.look m.c.pc)) (m.read m.c.pc)) := rfl
  have hlen := read_len m m.c.pc
  obtain ⟨cap, cv, hc, hf, _, _⟩ := h.open_
  go_enter Tryz.func28, Tryz.ntmps28
  go_wp2_with fail
  refine (read_c h m.c.pc hpc.1 hpc.2 (by omega)).mono ?_
  rintro e w1 ⟨rfl, s1⟩
  generalize m.read m.c.pc = m1 at *
  generalize m.look m.c.pc = code at *
  go_wp2_with fail
  refine (hop _ s1.gl).mono ?_
  rintro e w2 ⟨rfl, hb2⟩
  have s2 := s1.later hb2
  clear s1 hb2
  go_wp2_with fail
  refine (hkd _ s2.gl).mono ?_
  rintro e w3 ⟨rfl, hb3⟩
  have s3 := s2.later hb3
  have hA1 := s3.cok
  have hpc1 : 0 ≤ m1.c.pc ∧ m1.c.pc < 65536 := by unfold Cp.ok at hA1; omega
  have p1 := wrap_u16 (m1.c.pc + 1)
  have o1 := u16_ok (m1.c.pc + 1)
  obtain ⟨cap3, cv3, s3c, s3f, _, _⟩ := s3.open_
  clear s2 hb3 hop hkd
  generalize hr : opF code = r at *
  clear hr
  have HK : Hid (stepBy r m1 = (operF 4 r.2 r.1 m1).on (sizeF r.2)) := by simp [Hid, stepBy, hk]
  go_wp2_with fail
  refine (operate_4 s3 4 r.2 rfl r.1 (by omega) ((placeMode_iff _).1 hm)).mono ?_
  rintro e w5 ⟨rfl, s5⟩
  clear s3c s3f p1 s3
  generalize operF 4 r.2 r.1 m1 = q at *
  have hAq := s5.cok
  have hpq : 0 ≤ q.c.pc ∧ q.c.pc < 65536 := by unfold Cp.ok at hAq; omega
  have pq := wrap_u16 (q.c.pc + sizeF r.2)
  have pz : IntKind.u16.wrap (sizeF r.2) = sizeF r.2 := (wrap_u16 _).trans (Int.emod_eq_of_lt hsz.1 (by omega))
  have oq := u16_ok (q.c.pc + sizeF r.2)
  obtain ⟨capq, cvq, sqc, sqf, _, _⟩ := s5.open_
  go_wp2_with fail
  go_region_with (go_at_call 61; refine (hsi _ s5.drew.gl).mono ?_; rintro e w9 ⟨rfl, hb9⟩; have s9 := s5.drew.later hb9; obtain ⟨cap9, cv9, s9c, s9f, _, _⟩ := s9.open_; have S9 := Lib.hid (s9.setPC' oq); clear s9 hb9)
  all_goals go_wp2
  all_goals go_returns
  all_goals rw [HS.out, HK.out]
  all_goals exact ⟨rfl, S9.out⟩
set_option maxHeartbeats 1000000 in
set_option maxRecDepth 100000 in
theorem step_STA {B : Nat} {w0 w : World} {b g : Nat} {m : Ms} (h : St B w0 b g m w) (hl : m.cy.length < 700000) (hk : kindF (opF (m.look m.c.pc)) = 3) (hm : placeMode (opF (m.look m.c.pc)).2 = true) (hn : (opF (m.look m.c.pc)).1 = [83, 84, 65]) :
    Calls Tryz.prog 28 #[.pointer (some ⟨b, 0, none⟩)] w fun e w' => e = .returned (.tuple #[]) ∧ St B w0 b g (stepF m) w' := by
  have hA := h.cok
  have hpc : 0 ≤ m.c.pc ∧ m.c.pc < 65536 := by unfold Cp.ok at hA; omega
  have hcd := Ms.look_ok h.byt m.c.pc
  have hsz := size_ok (opF (m.look m.c.pc)).2
  have hop := operation_c (m.look m.c.pc) hcd.1 hcd.2
  have hkd := KindOf_c (m.look m.c.pc) hcd.1 hcd.2
  have hsi := SizeOf_c (m.look m.c.pc) hcd.1 hcd.2
  have HS : Hid (stepF m = stepBy (opF (m.look m.c.pc)) (m.read m.c.pc)) := rfl
  have hlen := read_len m m.c.pc
  obtain ⟨cap, cv, hc, hf, _, _⟩ := h.open_
  go_enter Tryz.func28, Tryz.ntmps28
  go_wp2_with fail
  refine (read_c h m.c.pc hpc.1 hpc.2 (by omega)).mono ?_
  rintro e w1 ⟨rfl, s1⟩
  generalize m.read m.c.pc = m1 at *
  generalize m.look m.c.pc = code at *
  go_wp2_with fail
  refine (hop _ s1.gl).mono ?_
  rintro e w2 ⟨rfl, hb2⟩
  have s2 := s1.later hb2
  clear s1 hb2
  go_wp2_with fail
  refine (hkd _ s2.gl).mono ?_
  rintro e w3 ⟨rfl, hb3⟩
  have s3 := s2.later hb3
  have hA1 := s3.cok
  have hpc1 : 0 ≤ m1.c.pc ∧ m1.c.pc < 65536 := by unfold Cp.ok at hA1; omega
  have p1 := wrap_u16 (m1.c.pc + 1)
  have o1 := u16_ok (m1.c.pc + 1)
  obtain ⟨cap3, cv3, s3c, s3f, _, _⟩ := s3.open_
  clear s2 hb3 hop hkd
  generalize hr : opF code = r at *
  clear hr
  have HK : Hid (stepBy r m1 = (operF 3 r.2 [83, 84, 65] m1).on (sizeF r.2)) := by simp [Hid, stepBy, hk, hn]
  go_wp2_with fail
  refine (operate_STA s3 r.2 (by omega) ((placeMode_iff _).1 hm)).mono ?_
  rintro e w5 ⟨rfl, s5⟩
  clear s3c s3f p1 s3 hn
  generalize operF 3 r.2 [83, 84, 65] m1 = q at *
  have hAq := s5.cok
  have hpq : 0 ≤ q.c.pc ∧ q.c.pc < 65536 := by unfold Cp.ok at hAq; omega
  have pq := wrap_u16 (q.c.pc + sizeF r.2)
  have pz : IntKind.u16.wrap (sizeF r.2) = sizeF r.2 := (wrap_u16 _).trans (Int.emod_eq_of_lt hsz.1 (by omega))
  have oq := u16_ok (q.c.pc + sizeF r.2)
  obtain ⟨capq, cvq, sqc, sqf, _, _⟩ := s5.open_
  go_wp2_with fail
  go_region_with (go_at_call 61; refine (hsi _ s5.drew.gl).mono ?_; rintro e w9 ⟨rfl, hb9⟩; have s9 := s5.drew.later hb9; obtain ⟨cap9, cv9, s9c, s9f, _, _⟩ := s9.open_; have S9 := Lib.hid (s9.setPC' oq); clear s9 hb9)
  all_goals go_wp2
  all_goals go_returns
  all_goals rw [HS.out, HK.out]
  all_goals exact ⟨rfl, S9.out⟩
set_option maxHeartbeats 1000000 in
set_option maxRecDepth 100000 in
theorem step_STX {B : Nat} {w0 w : World} {b g : Nat} {m : Ms} (h : St B w0 b g m w) (hl : m.cy.length < 700000) (hk : kindF (opF (m.look m.c.pc)) = 3) (hm : placeMode (opF (m.look m.c.pc)).2 = true) (hn : (opF (m.look m.c.pc)).1 = [83, 84, 88]) :
    Calls Tryz.prog 28 #[.pointer (some ⟨b, 0, none⟩)] w fun e w' => e = .returned (.tuple #[]) ∧ St B w0 b g (stepF m) w' := by
  have hA := h.cok
  have hpc : 0 ≤ m.c.pc ∧ m.c.pc < 65536 := by unfold Cp.ok at hA; omega
  have hcd := Ms.look_ok h.byt m.c.pc
  have hsz := size_ok (opF (m.look m.c.pc)).2
  have hop := operation_c (m.look m.c.pc) hcd.1 hcd.2
  have hkd := KindOf_c (m.look m.c.pc) hcd.1 hcd.2
  have hsi := SizeOf_c (m.look m.c.pc) hcd.1 hcd.2
  have HS : Hid (stepF m = stepBy (opF (m.look m.c.pc)) (m.read m.c.pc)) := rfl
  have hlen := read_len m m.c.pc
  obtain ⟨cap, cv, hc, hf, _, _⟩ := h.open_
  go_enter Tryz.func28, Tryz.ntmps28
  go_wp2_with fail
  refine (read_c h m.c.pc hpc.1 hpc.2 (by omega)).mono ?_
  rintro e w1 ⟨rfl, s1⟩
  generalize m.read m.c.pc = m1 at *
  generalize m.look m.c.pc = code at *
  go_wp2_with fail
  refine (hop _ s1.gl).mono ?_
  rintro e w2 ⟨rfl, hb2⟩
  have s2 := s1.later hb2
  clear s1 hb2
  go_wp2_with fail
  refine (hkd _ s2.gl).mono ?_
  rintro e w3 ⟨rfl, hb3⟩
  have s3 := s2.later hb3
  have hA1 := s3.cok
  have hpc1 : 0 ≤ m1.c.pc ∧ m1.c.pc < 65536 := by unfold Cp.ok at hA1; omega
  have p1 := wrap_u16 (m1.c.pc + 1)
  have o1 := u16_ok (m1.c.pc + 1)
  obtain ⟨cap3, cv3, s3c, s3f, _, _⟩ := s3.open_
  clear s2 hb3 hop hkd
  generalize hr : opF code = r at *
  clear hr
  have HK : Hid (stepBy r m1 = (operF 3 r.2 [83, 84, 88] m1).on (sizeF r.2)) := by simp [Hid, stepBy, hk, hn]
  go_wp2_with fail
  refine (operate_STX s3 r.2 (by omega) ((placeMode_iff _).1 hm)).mono ?_
  rintro e w5 ⟨rfl, s5⟩
  clear s3c s3f p1 s3 hn
  generalize operF 3 r.2 [83, 84, 88] m1 = q at *
  have hAq := s5.cok
  have hpq : 0 ≤ q.c.pc ∧ q.c.pc < 65536 := by unfold Cp.ok at hAq; omega
  have pq := wrap_u16 (q.c.pc + sizeF r.2)
  have pz : IntKind.u16.wrap (sizeF r.2) = sizeF r.2 := (wrap_u16 _).trans (Int.emod_eq_of_lt hsz.1 (by omega))
  have oq := u16_ok (q.c.pc + sizeF r.2)
  obtain ⟨capq, cvq, sqc, sqf, _, _⟩ := s5.open_
  go_wp2_with fail
  go_region_with (go_at_call 61; refine (hsi _ s5.drew.gl).mono ?_; rintro e w9 ⟨rfl, hb9⟩; have s9 := s5.drew.later hb9; obtain ⟨cap9, cv9, s9c, s9f, _, _⟩ := s9.open_; have S9 := Lib.hid (s9.setPC' oq); clear s9 hb9)
  all_goals go_wp2
  all_goals go_returns
  all_goals rw [HS.out, HK.out]
  all_goals exact ⟨rfl, S9.out⟩
set_option maxHeartbeats 1000000 in
set_option maxRecDepth 100000 in
theorem step_STY {B : Nat} {w0 w : World} {b g : Nat} {m : Ms} (h : St B w0 b g m w) (hl : m.cy.length < 700000) (hk : kindF (opF (m.look m.c.pc)) = 3) (hm : placeMode (opF (m.look m.c.pc)).2 = true) (hn : (opF (m.look m.c.pc)).1 = [83, 84, 89]) :
    Calls Tryz.prog 28 #[.pointer (some ⟨b, 0, none⟩)] w fun e w' => e = .returned (.tuple #[]) ∧ St B w0 b g (stepF m) w' := by
  have hA := h.cok
  have hpc : 0 ≤ m.c.pc ∧ m.c.pc < 65536 := by unfold Cp.ok at hA; omega
  have hcd := Ms.look_ok h.byt m.c.pc
  have hsz := size_ok (opF (m.look m.c.pc)).2
  have hop := operation_c (m.look m.c.pc) hcd.1 hcd.2
  have hkd := KindOf_c (m.look m.c.pc) hcd.1 hcd.2
  have hsi := SizeOf_c (m.look m.c.pc) hcd.1 hcd.2
  have HS : Hid (stepF m = stepBy (opF (m.look m.c.pc)) (m.read m.c.pc)) := rfl
  have hlen := read_len m m.c.pc
  obtain ⟨cap, cv, hc, hf, _, _⟩ := h.open_
  go_enter Tryz.func28, Tryz.ntmps28
  go_wp2_with fail
  refine (read_c h m.c.pc hpc.1 hpc.2 (by omega)).mono ?_
  rintro e w1 ⟨rfl, s1⟩
  generalize m.read m.c.pc = m1 at *
  generalize m.look m.c.pc = code at *
  go_wp2_with fail
  refine (hop _ s1.gl).mono ?_
  rintro e w2 ⟨rfl, hb2⟩
  have s2 := s1.later hb2
  clear s1 hb2
  go_wp2_with fail
  refine (hkd _ s2.gl).mono ?_
  rintro e w3 ⟨rfl, hb3⟩
  have s3 := s2.later hb3
  have hA1 := s3.cok
  have hpc1 : 0 ≤ m1.c.pc ∧ m1.c.pc < 65536 := by unfold Cp.ok at hA1; omega
  have p1 := wrap_u16 (m1.c.pc + 1)
  have o1 := u16_ok (m1.c.pc + 1)
  obtain ⟨cap3, cv3, s3c, s3f, _, _⟩ := s3.open_
  clear s2 hb3 hop hkd
  generalize hr : opF code = r at *
  clear hr
  have HK : Hid (stepBy r m1 = (operF 3 r.2 [83, 84, 89] m1).on (sizeF r.2)) := by simp [Hid, stepBy, hk, hn]
  go_wp2_with fail
  refine (operate_STY s3 r.2 (by omega) ((placeMode_iff _).1 hm)).mono ?_
  rintro e w5 ⟨rfl, s5⟩
  clear s3c s3f p1 s3 hn
  generalize operF 3 r.2 [83, 84, 89] m1 = q at *
  have hAq := s5.cok
  have hpq : 0 ≤ q.c.pc ∧ q.c.pc < 65536 := by unfold Cp.ok at hAq; omega
  have pq := wrap_u16 (q.c.pc + sizeF r.2)
  have pz : IntKind.u16.wrap (sizeF r.2) = sizeF r.2 := (wrap_u16 _).trans (Int.emod_eq_of_lt hsz.1 (by omega))
  have oq := u16_ok (q.c.pc + sizeF r.2)
  obtain ⟨capq, cvq, sqc, sqf, _, _⟩ := s5.open_
  go_wp2_with fail
  go_region_with (go_at_call 61; refine (hsi _ s5.drew.gl).mono ?_; rintro e w9 ⟨rfl, hb9⟩; have s9 := s5.drew.later hb9; obtain ⟨cap9, cv9, s9c, s9f, _, _⟩ := s9.open_; have S9 := Lib.hid (s9.setPC' oq); clear s9 hb9)
  all_goals go_wp2
  all_goals go_returns
  all_goals rw [HS.out, HK.out]
  all_goals exact ⟨rfl, S9.out⟩
set_option maxHeartbeats 1000000 in
set_option maxRecDepth 100000 in
theorem step_5 {B : Nat} {w0 w : World} {b g : Nat} {m : Ms} (h : St B w0 b g m w) (hl : m.cy.length < 700000) (hk : kindF (opF (m.look m.c.pc)) = 5) :
    Calls Tryz.prog 28 #[.pointer (some ⟨b, 0, none⟩)] w fun e w' => e = .returned (.tuple #[]) ∧ St B w0 b g (stepF m) w' := by
  have hA := h.cok
  have hpc : 0 ≤ m.c.pc ∧ m.c.pc < 65536 := by unfold Cp.ok at hA; omega
  have hcd := Ms.look_ok h.byt m.c.pc
  have hsz := size_ok (opF (m.look m.c.pc)).2
  have hop := operation_c (m.look m.c.pc) hcd.1 hcd.2
  have hkd := KindOf_c (m.look m.c.pc) hcd.1 hcd.2
  have hsi := SizeOf_c (m.look m.c.pc) hcd.1 hcd.2
  have HS : Hid (stepF m = stepBy (opF (m.look m.c.pc)) (m.read m.c.pc)) := rfl
  have hlen := read_len m m.c.pc
  obtain ⟨cap, cv, hc, hf, _, _⟩ := h.open_
  go_enter Tryz.func28, Tryz.ntmps28
  go_wp2_with fail
  refine (read_c h m.c.pc hpc.1 hpc.2 (by omega)).mono ?_
  rintro e w1 ⟨rfl, s1⟩
  generalize m.read m.c.pc = m1 at *
  generalize m.look m.c.pc = code at *
  go_wp2_with fail
  refine (hop _ s1.gl).mono ?_
  rintro e w2 ⟨rfl, hb2⟩
  have s2 := s1.later hb2
  clear s1 hb2
  go_wp2_with fail
  refine (hkd _ s2.gl).mono ?_
  rintro e w3 ⟨rfl, hb3⟩
  have s3 := s2.later hb3
  have hA1 := s3.cok
  have hpc1 : 0 ≤ m1.c.pc ∧ m1.c.pc < 65536 := by unfold Cp.ok at hA1; omega
  have p1 := wrap_u16 (m1.c.pc + 1)
  have o1 := u16_ok (m1.c.pc + 1)
  obtain ⟨cap3, cv3, s3c, s3f, _, _⟩ := s3.open_
  clear s2 hb3 hop hkd
  generalize hr : opF code = r at *
  clear hr
  have HK : Hid (stepBy r m1 = flowF 5 r.2 r.1 m1) := by simp [Hid, stepBy, hk]
  go_wp2_with fail
  refine (flow_c s3 5 r.2 r.1 (by decide) (by omega)).mono ?_
  rintro e w5 ⟨rfl, s5⟩
  have S5 := Lib.hid s5
  clear s3c s3f p1 s3 s5
  go_wp2
  go_returns
  rw [HS.out, HK.out]
  exact ⟨rfl, S5.out⟩
set_option maxHeartbeats 1000000 in
set_option maxRecDepth 100000 in
theorem step_6 {B : Nat} {w0 w : World} {b g : Nat} {m : Ms} (h : St B w0 b g m w) (hl : m.cy.length < 700000) (hk : kindF (opF (m.look m.c.pc)) = 6) :
    Calls Tryz.prog 28 #[.pointer (some ⟨b, 0, none⟩)] w fun e w' => e = .returned (.tuple #[]) ∧ St B w0 b g (stepF m) w' := by
  have hA := h.cok
  have hpc : 0 ≤ m.c.pc ∧ m.c.pc < 65536 := by unfold Cp.ok at hA; omega
  have hcd := Ms.look_ok h.byt m.c.pc
  have hsz := size_ok (opF (m.look m.c.pc)).2
  have hop := operation_c (m.look m.c.pc) hcd.1 hcd.2
  have hkd := KindOf_c (m.look m.c.pc) hcd.1 hcd.2
  have hsi := SizeOf_c (m.look m.c.pc) hcd.1 hcd.2
  have HS : Hid (stepF m = stepBy (opF (m.look m.c.pc)) (m.read m.c.pc)) := rfl
  have hlen := read_len m m.c.pc
  obtain ⟨cap, cv, hc, hf, _, _⟩ := h.open_
  go_enter Tryz.func28, Tryz.ntmps28
  go_wp2_with fail
  refine (read_c h m.c.pc hpc.1 hpc.2 (by omega)).mono ?_
  rintro e w1 ⟨rfl, s1⟩
  generalize m.read m.c.pc = m1 at *
  generalize m.look m.c.pc = code at *
  go_wp2_with fail
  refine (hop _ s1.gl).mono ?_
  rintro e w2 ⟨rfl, hb2⟩
  have s2 := s1.later hb2
  clear s1 hb2
  go_wp2_with fail
  refine (hkd _ s2.gl).mono ?_
  rintro e w3 ⟨rfl, hb3⟩
  have s3 := s2.later hb3
  have hA1 := s3.cok
  have hpc1 : 0 ≤ m1.c.pc ∧ m1.c.pc < 65536 := by unfold Cp.ok at hA1; omega
  have p1 := wrap_u16 (m1.c.pc + 1)
  have o1 := u16_ok (m1.c.pc + 1)
  obtain ⟨cap3, cv3, s3c, s3f, _, _⟩ := s3.open_
  clear s2 hb3 hop hkd
  generalize hr : opF code = r at *
  clear hr
  have HK : Hid (stepBy r m1 = flowF 6 r.2 r.1 m1) := by simp [Hid, stepBy, hk]
  go_wp2_with fail
  refine (flow_c s3 6 r.2 r.1 (by decide) (by omega)).mono ?_
  rintro e w5 ⟨rfl, s5⟩
  have S5 := Lib.hid s5
  clear s3c s3f p1 s3 s5
  go_wp2
  go_returns
  rw [HS.out, HK.out]
  exact ⟨rfl, S5.out⟩
set_option maxHeartbeats 1000000 in
set_option maxRecDepth 100000 in
theorem step_7 {B : Nat} {w0 w : World} {b g : Nat} {m : Ms} (h : St B w0 b g m w) (hl : m.cy.length < 700000) (hk : kindF (opF (m.look m.c.pc)) = 7) :
    Calls Tryz.prog 28 #[.pointer (some ⟨b, 0, none⟩)] w fun e w' => e = .returned (.tuple #[]) ∧ St B w0 b g (stepF m) w' := by
  have hA := h.cok
  have hpc : 0 ≤ m.c.pc ∧ m.c.pc < 65536 := by unfold Cp.ok at hA; omega
  have hcd := Ms.look_ok h.byt m.c.pc
  have hsz := size_ok (opF (m.look m.c.pc)).2
  have hop := operation_c (m.look m.c.pc) hcd.1 hcd.2
  have hkd := KindOf_c (m.look m.c.pc) hcd.1 hcd.2
  have hsi := SizeOf_c (m.look m.c.pc) hcd.1 hcd.2
  have HS : Hid (stepF m = stepBy (opF (m.look m.c.pc)) (m.read m.c.pc)) := rfl
  have hlen := read_len m m.c.pc
  obtain ⟨cap, cv, hc, hf, _, _⟩ := h.open_
  go_enter Tryz.func28, Tryz.ntmps28
  go_wp2_with fail
  refine (read_c h m.c.pc hpc.1 hpc.2 (by omega)).mono ?_
  rintro e w1 ⟨rfl, s1⟩
  generalize m.read m.c.pc = m1 at *
  generalize m.look m.c.pc = code at *
  go_wp2_with fail
  refine (hop _ s1.gl).mono ?_
  rintro e w2 ⟨rfl, hb2⟩
  have s2 := s1.later hb2
  clear s1 hb2
  go_wp2_with fail
  refine (hkd _ s2.gl).mono ?_
  rintro e w3 ⟨rfl, hb3⟩
  have s3 := s2.later hb3
  have hA1 := s3.cok
  have hpc1 : 0 ≤ m1.c.pc ∧ m1.c.pc < 65536 := by unfold Cp.ok at hA1; omega
  have p1 := wrap_u16 (m1.c.pc + 1)
  have o1 := u16_ok (m1.c.pc + 1)
  obtain ⟨cap3, cv3, s3c, s3f, _, _⟩ := s3.open_
  clear s2 hb3 hop hkd
  generalize hr : opF code = r at *
  clear hr
  have HK : Hid (stepBy r m1 = flowF 7 r.2 r.1 m1) := by simp [Hid, stepBy, hk]
  go_wp2_with fail
  refine (flow_c s3 7 r.2 r.1 (by decide) (by omega)).mono ?_
  rintro e w5 ⟨rfl, s5⟩
  have S5 := Lib.hid s5
  clear s3c s3f p1 s3 s5
  go_wp2
  go_returns
  rw [HS.out, HK.out]
  exact ⟨rfl, S5.out⟩
set_option maxHeartbeats 1000000 in
set_option maxRecDepth 100000 in
theorem step_8 {B : Nat} {w0 w : World} {b g : Nat} {m : Ms} (h : St B w0 b g m w) (hl : m.cy.length < 700000) (hk : kindF (opF (m.look m.c.pc)) = 8) :
    Calls Tryz.prog 28 #[.pointer (some ⟨b, 0, none⟩)] w fun e w' => e = .returned (.tuple #[]) ∧ St B w0 b g (stepF m) w' := by
  have hA := h.cok
  have hpc : 0 ≤ m.c.pc ∧ m.c.pc < 65536 := by unfold Cp.ok at hA; omega
  have hcd := Ms.look_ok h.byt m.c.pc
  have hsz := size_ok (opF (m.look m.c.pc)).2
  have hop := operation_c (m.look m.c.pc) hcd.1 hcd.2
  have hkd := KindOf_c (m.look m.c.pc) hcd.1 hcd.2
  have hsi := SizeOf_c (m.look m.c.pc) hcd.1 hcd.2
  have HS : Hid (stepF m = stepBy (opF (m.look m.c.pc)) (m.read m.c.pc)) := rfl
  have hlen := read_len m m.c.pc
  obtain ⟨cap, cv, hc, hf, _, _⟩ := h.open_
  go_enter Tryz.func28, Tryz.ntmps28
  go_wp2_with fail
  refine (read_c h m.c.pc hpc.1 hpc.2 (by omega)).mono ?_
  rintro e w1 ⟨rfl, s1⟩
  generalize m.read m.c.pc = m1 at *
  generalize m.look m.c.pc = code at *
  go_wp2_with fail
  refine (hop _ s1.gl).mono ?_
  rintro e w2 ⟨rfl, hb2⟩
  have s2 := s1.later hb2
  clear s1 hb2
  go_wp2_with fail
  refine (hkd _ s2.gl).mono ?_
  rintro e w3 ⟨rfl, hb3⟩
  have s3 := s2.later hb3
  have hA1 := s3.cok
  have hpc1 : 0 ≤ m1.c.pc ∧ m1.c.pc < 65536 := by unfold Cp.ok at hA1; omega
  have p1 := wrap_u16 (m1.c.pc + 1)
  have o1 := u16_ok (m1.c.pc + 1)
  obtain ⟨cap3, cv3, s3c, s3f, _, _⟩ := s3.open_
  clear s2 hb3 hop hkd
  generalize hr : opF code = r at *
  clear hr
  have HK : Hid (stepBy r m1 = flowF 8 r.2 r.1 m1) := by simp [Hid, stepBy, hk]
  go_wp2_with fail
  refine (flow_c s3 8 r.2 r.1 (by decide) (by omega)).mono ?_
  rintro e w5 ⟨rfl, s5⟩
  have S5 := Lib.hid s5
  clear s3c s3f p1 s3 s5
  go_wp2
  go_returns
  rw [HS.out, HK.out]
  exact ⟨rfl, S5.out⟩
set_option maxHeartbeats 1000000 in
set_option maxRecDepth 100000 in
theorem step_9 {B : Nat} {w0 w : World} {b g : Nat} {m : Ms} (h : St B w0 b g m w) (hl : m.cy.length < 700000) (hk : kindF (opF (m.look m.c.pc)) = 9) :
    Calls Tryz.prog 28 #[.pointer (some ⟨b, 0, none⟩)] w fun e w' => e = .returned (.tuple #[]) ∧ St B w0 b g (stepF m) w' := by
  have hA := h.cok
  have hpc : 0 ≤ m.c.pc ∧ m.c.pc < 65536 := by unfold Cp.ok at hA; omega
  have hcd := Ms.look_ok h.byt m.c.pc
  have hsz := size_ok (opF (m.look m.c.pc)).2
  have hop := operation_c (m.look m.c.pc) hcd.1 hcd.2
  have hkd := KindOf_c (m.look m.c.pc) hcd.1 hcd.2
  have hsi := SizeOf_c (m.look m.c.pc) hcd.1 hcd.2
  have HS : Hid (stepF m = stepBy (opF (m.look m.c.pc)) (m.read m.c.pc)) := rfl
  have hlen := read_len m m.c.pc
  obtain ⟨cap, cv, hc, hf, _, _⟩ := h.open_
  go_enter Tryz.func28, Tryz.ntmps28
  go_wp2_with fail
  refine (read_c h m.c.pc hpc.1 hpc.2 (by omega)).mono ?_
  rintro e w1 ⟨rfl, s1⟩
  generalize m.read m.c.pc = m1 at *
  generalize m.look m.c.pc = code at *
  go_wp2_with fail
  refine (hop _ s1.gl).mono ?_
  rintro e w2 ⟨rfl, hb2⟩
  have s2 := s1.later hb2
  clear s1 hb2
  go_wp2_with fail
  refine (hkd _ s2.gl).mono ?_
  rintro e w3 ⟨rfl, hb3⟩
  have s3 := s2.later hb3
  have hA1 := s3.cok
  have hpc1 : 0 ≤ m1.c.pc ∧ m1.c.pc < 65536 := by unfold Cp.ok at hA1; omega
  have p1 := wrap_u16 (m1.c.pc + 1)
  have o1 := u16_ok (m1.c.pc + 1)
  obtain ⟨cap3, cv3, s3c, s3f, _, _⟩ := s3.open_
  clear s2 hb3 hop hkd
  generalize hr : opF code = r at *
  clear hr
  have HK : Hid (stepBy r m1 = flowF 9 r.2 r.1 m1) := by simp [Hid, stepBy, hk]
  go_wp2_with fail
  refine (flow_c s3 9 r.2 r.1 (by decide) (by omega)).mono ?_
  rintro e w5 ⟨rfl, s5⟩
  have S5 := Lib.hid s5
  clear s3c s3f p1 s3 s5
  go_wp2
  go_returns
  rw [HS.out, HK.out]
  exact ⟨rfl, S5.out⟩
set_option maxHeartbeats 1000000 in
set_option maxRecDepth 100000 in
theorem step_10 {B : Nat} {w0 w : World} {b g : Nat} {m : Ms} (h : St B w0 b g m w) (hl : m.cy.length < 700000) (hk : kindF (opF (m.look m.c.pc)) = 10) :
    Calls Tryz.prog 28 #[.pointer (some ⟨b, 0, none⟩)] w fun e w' => e = .returned (.tuple #[]) ∧ St B w0 b g (stepF m) w' := by
  have hA := h.cok
  have hpc : 0 ≤ m.c.pc ∧ m.c.pc < 65536 := by unfold Cp.ok at hA; omega
  have hcd := Ms.look_ok h.byt m.c.pc
  have hsz := size_ok (opF (m.look m.c.pc)).2
  have hop := operation_c (m.look m.c.pc) hcd.1 hcd.2
  have hkd := KindOf_c (m.look m.c.pc) hcd.1 hcd.2
  have hsi := SizeOf_c (m.look m.c.pc) hcd.1 hcd.2
  have HS : Hid (stepF m = stepBy (opF (m.look m.c.pc)) (m.read m.c.pc)) := rfl
  have hlen := read_len m m.c.pc
  obtain ⟨cap, cv, hc, hf, _, _⟩ := h.open_
  go_enter Tryz.func28, Tryz.ntmps28
  go_wp2_with fail
  refine (read_c h m.c.pc hpc.1 hpc.2 (by omega)).mono ?_
  rintro e w1 ⟨rfl, s1⟩
  generalize m.read m.c.pc = m1 at *
  generalize m.look m.c.pc = code at *
  go_wp2_with fail
  refine (hop _ s1.gl).mono ?_
  rintro e w2 ⟨rfl, hb2⟩
  have s2 := s1.later hb2
  clear s1 hb2
  go_wp2_with fail
  refine (hkd _ s2.gl).mono ?_
  rintro e w3 ⟨rfl, hb3⟩
  have s3 := s2.later hb3
  have hA1 := s3.cok
  have hpc1 : 0 ≤ m1.c.pc ∧ m1.c.pc < 65536 := by unfold Cp.ok at hA1; omega
  have p1 := wrap_u16 (m1.c.pc + 1)
  have o1 := u16_ok (m1.c.pc + 1)
  obtain ⟨cap3, cv3, s3c, s3f, _, _⟩ := s3.open_
  clear s2 hb3 hop hkd
  generalize hr : opF code = r at *
  clear hr
  have HK : Hid (stepBy r m1 = flowF 10 r.2 r.1 m1) := by simp [Hid, stepBy, hk]
  go_wp2_with fail
  refine (flow_c s3 10 r.2 r.1 (by decide) (by omega)).mono ?_
  rintro e w5 ⟨rfl, s5⟩
  have S5 := Lib.hid s5
  clear s3c s3f p1 s3 s5
  go_wp2
  go_returns
  rw [HS.out, HK.out]
  exact ⟨rfl, S5.out⟩
theorem step_c {B : Nat} {w0 w : World} {b g : Nat} {m : Ms} (h : St B w0 b g m w) (hl : m.cy.length < 700000) (hne : (opF (m.look m.c.pc)).1 ≠ []) :
    Calls Tryz.prog 28 #[.pointer (some ⟨b, 0, none⟩)] w fun e w' => e = .returned (.tuple #[]) ∧ St B w0 b g (stepF m) w' := by
  have hcd := Ms.look_ok h.byt m.c.pc
  rcases op_cases _ hcd.1 hcd.2 hne with k | ⟨k, k2 | k2⟩ | ⟨k, k2, k3 | k3 | k3⟩ | ⟨k, k2⟩ | k | k | k | k | k | k | k | k
  · exact step_1 h hl k
  · exact step_2i h hl k k2
  · exact step_2 h hl k k2
  · exact step_STA h hl k k2 k3
  · exact step_STX h hl k k2 k3
  · exact step_STY h hl k k2 k3
  · exact step_4 h hl k k2
  · exact step_11 h hl k
  · exact step_12 h hl k
  · exact step_5 h hl k
  · exact step_6 h hl k
  · exact step_7 h hl k
  · exact step_8 h hl k
  · exact step_9 h hl k
  · exact step_10 h hl k
end Go.Proofs.YtemahcjglmhefaaGreatDoor
