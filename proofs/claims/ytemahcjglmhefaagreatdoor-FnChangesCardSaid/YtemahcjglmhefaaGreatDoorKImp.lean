/- The machine's method 'do' at any name; a register by its letter; operations without an operand. No condition. Operations without an operand. No condition. -/
import Derived.Test.YtemahcjglmhefaaGreatDoorKDo1
import Derived.Test.YtemahcjglmhefaaGreatDoorKOp
import Derived.Deep.RegionWith
namespace Go.Proofs.YtemahcjglmhefaaGreatDoor
set_option linter.unusedVariables false
set_option linter.unusedSimpArgs false
open Go.RowKit
attribute [local irreducible] World.setCell

theorem do_c {B : Nat} {w0 w : World} {b g : Nat} {m : Ms} (h : St B w0 b g m w) (l : List UInt8) (v : Int) (hv : 0 ≤ v ∧ v < 256) :
    Calls Tryz.prog 78 #[.pointer (some ⟨b, 0, none⟩), .string ⟨l.toArray⟩, .int .u8 v] w fun e w' => e = .returned (.int .u8 (doF l v m.c).1) ∧ St B w0 b g (m.do_ l v) w' := by
  by_cases n0 : l = [76, 68, 65]
  · subst n0; exact do_LDA h v hv
  by_cases n1 : l = [76, 68, 88]
  · subst n1; exact do_LDX h v hv
  by_cases n2 : l = [76, 68, 89]
  · subst n2; exact do_LDY h v hv
  by_cases n3 : l = [79, 82, 65]
  · subst n3; exact do_ORA h v hv
  by_cases n4 : l = [65, 78, 68]
  · subst n4; exact do_AND h v hv
  by_cases n5 : l = [69, 79, 82]
  · subst n5; exact do_EOR h v hv
  by_cases n6 : l = [65, 68, 67]
  · subst n6; exact do_ADC h v hv
  by_cases n7 : l = [83, 66, 67]
  · subst n7; exact do_SBC h v hv
  by_cases n8 : l = [67, 77, 80]
  · subst n8; exact do_CMP h v hv
  by_cases n9 : l = [67, 80, 88]
  · subst n9; exact do_CPX h v hv
  by_cases n10 : l = [67, 80, 89]
  · subst n10; exact do_CPY h v hv
  by_cases n11 : l = [66, 73, 84]
  · subst n11; exact do_BIT h v hv
  by_cases n12 : l = [65, 83, 76]
  · subst n12; exact do_ASL h v hv
  by_cases n13 : l = [76, 83, 82]
  · subst n13; exact do_LSR h v hv
  by_cases n14 : l = [82, 79, 76]
  · subst n14; exact do_ROL h v hv
  by_cases n15 : l = [82, 79, 82]
  · subst n15; exact do_ROR h v hv
  by_cases n16 : l = [73, 78, 67]
  · subst n16; exact do_INC h v hv
  by_cases n17 : l = [68, 69, 67]
  · subst n17; exact do_DEC h v hv
  have e1 : doF l v m.c = (v, m.c) := by simp only [doF, n0, n1, n2, n3, n4, n5, n6, n7, n8, n9, n10, n11, n12, n13, n14, n15, n16, n17, if_false]
  have e2 : m.do_ l v = m := by simp only [Ms.do_, e1]
  rw [e1, e2]
  refine do_other h l v hv ?_
  simp only [List.mem_cons, List.not_mem_nil, or_false, forall_eq_or_imp, forall_eq, beq_eq_false_iff_ne, ne_eq]
  exact ⟨n0, n1, n2, n3, n4, n5, n6, n7, n8, n9, n10, n11, n12, n13, n14, n15, n16, n17⟩
theorem register_A (b : Nat) (w : World) : Calls Tryz.prog 79 #[.pointer (some ⟨b, 0, none⟩), .int .u8 65] w fun e w' => e = .returned (.pointer (some ⟨b, 0, none⟩)) ∧ w' = w := by
  go_enter Tryz.func79, Tryz.ntmps79
  go_wp2
  go_returns
  exact ⟨rfl, rfl⟩
theorem register_X (b : Nat) (w : World) : Calls Tryz.prog 79 #[.pointer (some ⟨b, 0, none⟩), .int .u8 88] w fun e w' => e = .returned (.pointer (some ⟨b, 1, none⟩)) ∧ w' = w := by
  go_enter Tryz.func79, Tryz.ntmps79
  go_wp2
  go_returns
  exact ⟨rfl, rfl⟩
theorem register_Y (b : Nat) (w : World) : Calls Tryz.prog 79 #[.pointer (some ⟨b, 0, none⟩), .int .u8 89] w fun e w' => e = .returned (.pointer (some ⟨b, 2, none⟩)) ∧ w' = w := by
  go_enter Tryz.func79, Tryz.ntmps79
  go_wp2
  go_returns
  exact ⟨rfl, rfl⟩
theorem register_S (b : Nat) (w : World) : Calls Tryz.prog 79 #[.pointer (some ⟨b, 0, none⟩), .int .u8 83] w fun e w' => e = .returned (.pointer (some ⟨b, 3, none⟩)) ∧ w' = w := by
  go_enter Tryz.func79, Tryz.ntmps79
  go_wp2
  go_returns
  exact ⟨rfl, rfl⟩
set_option maxHeartbeats 1000000 in
set_option maxRecDepth 100000 in
theorem imp_ASL {B : Nat} {w0 w : World} {b g : Nat} {m : Ms} (h : St B w0 b g m w) :
    Calls Tryz.prog 56 #[.pointer (some ⟨b, 0, none⟩), .string ⟨#[65, 83, 76]⟩] w fun e w' => e = .returned (.tuple #[]) ∧ St B w0 b g (m.imp [65, 83, 76]) w' := by
  have hA := h.cok
  obtain ⟨cap, cv, hc, hf, _, _⟩ := h.open_
  go_enter Tryz.func56, Tryz.ntmps56
  go_wp2_with (go_at_call 78; refine (do_ASL h m.c.a hA.1).mono ?_; rintro e w1 ⟨rfl, h1⟩; have H1 := Lib.hid h1; obtain ⟨cap1, cv1, kc, kf, _, _⟩ := h1.open_; clear h1)
  go_returns
  exact ⟨rfl, H1.out.setA (by have := doF_ok [65, 83, 76] m.c.a m.c hA.1 hA; exact this)⟩
set_option maxHeartbeats 1000000 in
set_option maxRecDepth 100000 in
theorem imp_LSR {B : Nat} {w0 w : World} {b g : Nat} {m : Ms} (h : St B w0 b g m w) :
    Calls Tryz.prog 56 #[.pointer (some ⟨b, 0, none⟩), .string ⟨#[76, 83, 82]⟩] w fun e w' => e = .returned (.tuple #[]) ∧ St B w0 b g (m.imp [76, 83, 82]) w' := by
  have hA := h.cok
  obtain ⟨cap, cv, hc, hf, _, _⟩ := h.open_
  go_enter Tryz.func56, Tryz.ntmps56
  go_wp2_with (go_at_call 78; refine (do_LSR h m.c.a hA.1).mono ?_; rintro e w1 ⟨rfl, h1⟩; have H1 := Lib.hid h1; obtain ⟨cap1, cv1, kc, kf, _, _⟩ := h1.open_; clear h1)
  go_returns
  exact ⟨rfl, H1.out.setA (by have := doF_ok [76, 83, 82] m.c.a m.c hA.1 hA; exact this)⟩
set_option maxHeartbeats 1000000 in
set_option maxRecDepth 100000 in
theorem imp_ROL {B : Nat} {w0 w : World} {b g : Nat} {m : Ms} (h : St B w0 b g m w) :
    Calls Tryz.prog 56 #[.pointer (some ⟨b, 0, none⟩), .string ⟨#[82, 79, 76]⟩] w fun e w' => e = .returned (.tuple #[]) ∧ St B w0 b g (m.imp [82, 79, 76]) w' := by
  have hA := h.cok
  obtain ⟨cap, cv, hc, hf, _, _⟩ := h.open_
  go_enter Tryz.func56, Tryz.ntmps56
  go_wp2_with (go_at_call 78; refine (do_ROL h m.c.a hA.1).mono ?_; rintro e w1 ⟨rfl, h1⟩; have H1 := Lib.hid h1; obtain ⟨cap1, cv1, kc, kf, _, _⟩ := h1.open_; clear h1)
  go_returns
  exact ⟨rfl, H1.out.setA (by have := doF_ok [82, 79, 76] m.c.a m.c hA.1 hA; exact this)⟩
set_option maxHeartbeats 1000000 in
set_option maxRecDepth 100000 in
theorem imp_ROR {B : Nat} {w0 w : World} {b g : Nat} {m : Ms} (h : St B w0 b g m w) :
    Calls Tryz.prog 56 #[.pointer (some ⟨b, 0, none⟩), .string ⟨#[82, 79, 82]⟩] w fun e w' => e = .returned (.tuple #[]) ∧ St B w0 b g (m.imp [82, 79, 82]) w' := by
  have hA := h.cok
  obtain ⟨cap, cv, hc, hf, _, _⟩ := h.open_
  go_enter Tryz.func56, Tryz.ntmps56
  go_wp2_with (go_at_call 78; refine (do_ROR h m.c.a hA.1).mono ?_; rintro e w1 ⟨rfl, h1⟩; have H1 := Lib.hid h1; obtain ⟨cap1, cv1, kc, kf, _, _⟩ := h1.open_; clear h1)
  go_returns
  exact ⟨rfl, H1.out.setA (by have := doF_ok [82, 79, 82] m.c.a m.c hA.1 hA; exact this)⟩
end Go.Proofs.YtemahcjglmhefaaGreatDoor
namespace Go.Proofs.YtemahcjglmhefaaGreatDoor
set_option linter.unusedVariables false
set_option linter.unusedSimpArgs false
open Go.RowKit
attribute [local irreducible] World.setCell

set_option maxHeartbeats 1000000 in
set_option maxRecDepth 100000 in
theorem imp_INX {B : Nat} {w0 w : World} {b g : Nat} {m : Ms} (h : St B w0 b g m w) :
    Calls Tryz.prog 56 #[.pointer (some ⟨b, 0, none⟩), .string ⟨#[73, 78, 88]⟩] w fun e w' => e = .returned (.tuple #[]) ∧ St B w0 b g (m.imp [73, 78, 88]) w' := by
  have hA := h.cok
  obtain ⟨cap, cv, hc, hf, _, _⟩ := h.open_
  go_enter Tryz.func56, Tryz.ntmps56
  go_wp2_with (go_at_call 79; refine (register_X _ _).mono ?_; rintro e w1 ⟨rfl, rfl⟩)
  go_region_with (go_at_call 78; refine (do_INC h.drew m.c.x (by unfold Cp.ok at hA; omega)).mono ?_; rintro e w1 ⟨rfl, h1⟩; have H1 := Lib.hid h1; obtain ⟨cap1, cv1, kc, kf, _, _⟩ := h1.open_; clear h1)
  all_goals go_wp2
  all_goals go_returns
  all_goals exact ⟨rfl, H1.out.setX (by have := doF_ok [73, 78, 67] m.c.x m.c (by unfold Cp.ok at hA; omega) hA; exact this)⟩
set_option maxHeartbeats 1000000 in
set_option maxRecDepth 100000 in
theorem imp_INY {B : Nat} {w0 w : World} {b g : Nat} {m : Ms} (h : St B w0 b g m w) :
    Calls Tryz.prog 56 #[.pointer (some ⟨b, 0, none⟩), .string ⟨#[73, 78, 89]⟩] w fun e w' => e = .returned (.tuple #[]) ∧ St B w0 b g (m.imp [73, 78, 89]) w' := by
  have hA := h.cok
  obtain ⟨cap, cv, hc, hf, _, _⟩ := h.open_
  go_enter Tryz.func56, Tryz.ntmps56
  go_wp2_with (go_at_call 79; refine (register_Y _ _).mono ?_; rintro e w1 ⟨rfl, rfl⟩)
  go_region_with (go_at_call 78; refine (do_INC h.drew m.c.y (by unfold Cp.ok at hA; omega)).mono ?_; rintro e w1 ⟨rfl, h1⟩; have H1 := Lib.hid h1; obtain ⟨cap1, cv1, kc, kf, _, _⟩ := h1.open_; clear h1)
  all_goals go_wp2
  all_goals go_returns
  all_goals exact ⟨rfl, H1.out.setY (by have := doF_ok [73, 78, 67] m.c.y m.c (by unfold Cp.ok at hA; omega) hA; exact this)⟩
set_option maxHeartbeats 1000000 in
set_option maxRecDepth 100000 in
theorem imp_DEX {B : Nat} {w0 w : World} {b g : Nat} {m : Ms} (h : St B w0 b g m w) :
    Calls Tryz.prog 56 #[.pointer (some ⟨b, 0, none⟩), .string ⟨#[68, 69, 88]⟩] w fun e w' => e = .returned (.tuple #[]) ∧ St B w0 b g (m.imp [68, 69, 88]) w' := by
  have hA := h.cok
  obtain ⟨cap, cv, hc, hf, _, _⟩ := h.open_
  go_enter Tryz.func56, Tryz.ntmps56
  go_wp2_with (go_at_call 79; refine (register_X _ _).mono ?_; rintro e w1 ⟨rfl, rfl⟩)
  go_region_with (go_at_call 78; refine (do_DEC h.drew m.c.x (by unfold Cp.ok at hA; omega)).mono ?_; rintro e w1 ⟨rfl, h1⟩; have H1 := Lib.hid h1; obtain ⟨cap1, cv1, kc, kf, _, _⟩ := h1.open_; clear h1)
  all_goals go_wp2
  all_goals go_returns
  all_goals exact ⟨rfl, H1.out.setX (by have := doF_ok [68, 69, 67] m.c.x m.c (by unfold Cp.ok at hA; omega) hA; exact this)⟩
set_option maxHeartbeats 1000000 in
set_option maxRecDepth 100000 in
theorem imp_DEY {B : Nat} {w0 w : World} {b g : Nat} {m : Ms} (h : St B w0 b g m w) :
    Calls Tryz.prog 56 #[.pointer (some ⟨b, 0, none⟩), .string ⟨#[68, 69, 89]⟩] w fun e w' => e = .returned (.tuple #[]) ∧ St B w0 b g (m.imp [68, 69, 89]) w' := by
  have hA := h.cok
  obtain ⟨cap, cv, hc, hf, _, _⟩ := h.open_
  go_enter Tryz.func56, Tryz.ntmps56
  go_wp2_with (go_at_call 79; refine (register_Y _ _).mono ?_; rintro e w1 ⟨rfl, rfl⟩)
  go_region_with (go_at_call 78; refine (do_DEC h.drew m.c.y (by unfold Cp.ok at hA; omega)).mono ?_; rintro e w1 ⟨rfl, h1⟩; have H1 := Lib.hid h1; obtain ⟨cap1, cv1, kc, kf, _, _⟩ := h1.open_; clear h1)
  all_goals go_wp2
  all_goals go_returns
  all_goals exact ⟨rfl, H1.out.setY (by have := doF_ok [68, 69, 67] m.c.y m.c (by unfold Cp.ok at hA; omega) hA; exact this)⟩
set_option maxHeartbeats 1000000 in
set_option maxRecDepth 100000 in
theorem imp_TAX {B : Nat} {w0 w : World} {b g : Nat} {m : Ms} (h : St B w0 b g m w) :
    Calls Tryz.prog 56 #[.pointer (some ⟨b, 0, none⟩), .string ⟨#[84, 65, 88]⟩] w fun e w' => e = .returned (.tuple #[]) ∧ St B w0 b g (m.imp [84, 65, 88]) w' := by
  have hA := h.cok
  obtain ⟨cap, cv, hc, hf, _, _⟩ := h.open_
  have hv : 0 ≤ m.c.a ∧ m.c.a < 256 := by unfold Cp.ok at hA; omega
  have h2 := h.setX hv
  have H2 := Lib.hid h2
  clear h2
  go_enter Tryz.func56, Tryz.ntmps56
  go_wp2_with fail
  refine (register_A _ _).mono ?_
  rintro e w1 ⟨rfl, rfl⟩
  go_wp2_with fail
  refine (register_X _ _).mono ?_
  rintro e w1 ⟨rfl, rfl⟩
  go_wp2_with fail
  refine (NZ_c m.c.a m.c.f hv.1 hv.2 _).mono ?_
  rintro e w1 ⟨rfl, hb1⟩
  have h1 := H2.out.later hb1
  have H1 := Lib.hid h1
  obtain ⟨cap1, cv1, kc, kf, _, _⟩ := h1.open_
  clear h1 hb1
  go_wp2
  go_returns
  exact ⟨rfl, H1.out.setF _ _ _ _ _ _⟩
set_option maxHeartbeats 1000000 in
set_option maxRecDepth 100000 in
theorem imp_TXA {B : Nat} {w0 w : World} {b g : Nat} {m : Ms} (h : St B w0 b g m w) :
    Calls Tryz.prog 56 #[.pointer (some ⟨b, 0, none⟩), .string ⟨#[84, 88, 65]⟩] w fun e w' => e = .returned (.tuple #[]) ∧ St B w0 b g (m.imp [84, 88, 65]) w' := by
  have hA := h.cok
  obtain ⟨cap, cv, hc, hf, _, _⟩ := h.open_
  have hv : 0 ≤ m.c.x ∧ m.c.x < 256 := by unfold Cp.ok at hA; omega
  have h2 := h.setA hv
  have H2 := Lib.hid h2
  clear h2
  go_enter Tryz.func56, Tryz.ntmps56
  go_wp2_with fail
  refine (register_X _ _).mono ?_
  rintro e w1 ⟨rfl, rfl⟩
  go_wp2_with fail
  refine (register_A _ _).mono ?_
  rintro e w1 ⟨rfl, rfl⟩
  go_wp2_with fail
  refine (NZ_c m.c.x m.c.f hv.1 hv.2 _).mono ?_
  rintro e w1 ⟨rfl, hb1⟩
  have h1 := H2.out.later hb1
  have H1 := Lib.hid h1
  obtain ⟨cap1, cv1, kc, kf, _, _⟩ := h1.open_
  clear h1 hb1
  go_wp2
  go_returns
  exact ⟨rfl, H1.out.setF _ _ _ _ _ _⟩
set_option maxHeartbeats 1000000 in
set_option maxRecDepth 100000 in
theorem imp_TAY {B : Nat} {w0 w : World} {b g : Nat} {m : Ms} (h : St B w0 b g m w) :
    Calls Tryz.prog 56 #[.pointer (some ⟨b, 0, none⟩), .string ⟨#[84, 65, 89]⟩] w fun e w' => e = .returned (.tuple #[]) ∧ St B w0 b g (m.imp [84, 65, 89]) w' := by
  have hA := h.cok
  obtain ⟨cap, cv, hc, hf, _, _⟩ := h.open_
  have hv : 0 ≤ m.c.a ∧ m.c.a < 256 := by unfold Cp.ok at hA; omega
  have h2 := h.setY hv
  have H2 := Lib.hid h2
  clear h2
  go_enter Tryz.func56, Tryz.ntmps56
  go_wp2_with fail
  refine (register_A _ _).mono ?_
  rintro e w1 ⟨rfl, rfl⟩
  go_wp2_with fail
  refine (register_Y _ _).mono ?_
  rintro e w1 ⟨rfl, rfl⟩
  go_wp2_with fail
  refine (NZ_c m.c.a m.c.f hv.1 hv.2 _).mono ?_
  rintro e w1 ⟨rfl, hb1⟩
  have h1 := H2.out.later hb1
  have H1 := Lib.hid h1
  obtain ⟨cap1, cv1, kc, kf, _, _⟩ := h1.open_
  clear h1 hb1
  go_wp2
  go_returns
  exact ⟨rfl, H1.out.setF _ _ _ _ _ _⟩
set_option maxHeartbeats 1000000 in
set_option maxRecDepth 100000 in
theorem imp_TYA {B : Nat} {w0 w : World} {b g : Nat} {m : Ms} (h : St B w0 b g m w) :
    Calls Tryz.prog 56 #[.pointer (some ⟨b, 0, none⟩), .string ⟨#[84, 89, 65]⟩] w fun e w' => e = .returned (.tuple #[]) ∧ St B w0 b g (m.imp [84, 89, 65]) w' := by
  have hA := h.cok
  obtain ⟨cap, cv, hc, hf, _, _⟩ := h.open_
  have hv : 0 ≤ m.c.y ∧ m.c.y < 256 := by unfold Cp.ok at hA; omega
  have h2 := h.setA hv
  have H2 := Lib.hid h2
  clear h2
  go_enter Tryz.func56, Tryz.ntmps56
  go_wp2_with fail
  refine (register_Y _ _).mono ?_
  rintro e w1 ⟨rfl, rfl⟩
  go_wp2_with fail
  refine (register_A _ _).mono ?_
  rintro e w1 ⟨rfl, rfl⟩
  go_wp2_with fail
  refine (NZ_c m.c.y m.c.f hv.1 hv.2 _).mono ?_
  rintro e w1 ⟨rfl, hb1⟩
  have h1 := H2.out.later hb1
  have H1 := Lib.hid h1
  obtain ⟨cap1, cv1, kc, kf, _, _⟩ := h1.open_
  clear h1 hb1
  go_wp2
  go_returns
  exact ⟨rfl, H1.out.setF _ _ _ _ _ _⟩
set_option maxHeartbeats 1000000 in
set_option maxRecDepth 100000 in
theorem imp_TSX {B : Nat} {w0 w : World} {b g : Nat} {m : Ms} (h : St B w0 b g m w) :
    Calls Tryz.prog 56 #[.pointer (some ⟨b, 0, none⟩), .string ⟨#[84, 83, 88]⟩] w fun e w' => e = .returned (.tuple #[]) ∧ St B w0 b g (m.imp [84, 83, 88]) w' := by
  have hA := h.cok
  obtain ⟨cap, cv, hc, hf, _, _⟩ := h.open_
  have hv : 0 ≤ m.c.s ∧ m.c.s < 256 := by unfold Cp.ok at hA; omega
  have h2 := h.setX hv
  have H2 := Lib.hid h2
  clear h2
  go_enter Tryz.func56, Tryz.ntmps56
  go_wp2_with fail
  refine (register_S _ _).mono ?_
  rintro e w1 ⟨rfl, rfl⟩
  go_wp2_with fail
  refine (register_X _ _).mono ?_
  rintro e w1 ⟨rfl, rfl⟩
  go_wp2_with fail
  refine (NZ_c m.c.s m.c.f hv.1 hv.2 _).mono ?_
  rintro e w1 ⟨rfl, hb1⟩
  have h1 := H2.out.later hb1
  have H1 := Lib.hid h1
  obtain ⟨cap1, cv1, kc, kf, _, _⟩ := h1.open_
  clear h1 hb1
  go_wp2
  go_returns
  exact ⟨rfl, H1.out.setF _ _ _ _ _ _⟩
set_option maxHeartbeats 1000000 in
set_option maxRecDepth 100000 in
theorem imp_TXS {B : Nat} {w0 w : World} {b g : Nat} {m : Ms} (h : St B w0 b g m w) :
    Calls Tryz.prog 56 #[.pointer (some ⟨b, 0, none⟩), .string ⟨#[84, 88, 83]⟩] w fun e w' => e = .returned (.tuple #[]) ∧ St B w0 b g (m.imp [84, 88, 83]) w' := by
  have hA := h.cok
  obtain ⟨cap, cv, hc, hf, _, _⟩ := h.open_
  have hv : 0 ≤ m.c.x ∧ m.c.x < 256 := by unfold Cp.ok at hA; omega
  have h2 := h.setS hv
  have H2 := Lib.hid h2
  clear h2
  go_enter Tryz.func56, Tryz.ntmps56
  go_wp2_with fail
  refine (register_X _ _).mono ?_
  rintro e w1 ⟨rfl, rfl⟩
  go_wp2_with fail
  refine (register_S _ _).mono ?_
  rintro e w1 ⟨rfl, rfl⟩
  go_wp2_with fail
  go_returns
  exact ⟨rfl, H2.out⟩
set_option maxHeartbeats 1000000 in
set_option maxRecDepth 100000 in
theorem imp_CLC {B : Nat} {w0 w : World} {b g : Nat} {m : Ms} (h : St B w0 b g m w) :
    Calls Tryz.prog 56 #[.pointer (some ⟨b, 0, none⟩), .string ⟨#[67, 76, 67]⟩] w fun e w' => e = .returned (.tuple #[]) ∧ St B w0 b g (m.imp [67, 76, 67]) w' := by
  have hA := h.cok
  obtain ⟨cap, cv, hc, hf, _, _⟩ := h.open_
  have h2 := h.setFC false
  have H2 := Lib.hid h2
  clear h2
  go_enter Tryz.func56, Tryz.ntmps56
  go_wp2
  go_returns
  exact ⟨rfl, H2.out⟩
set_option maxHeartbeats 1000000 in
set_option maxRecDepth 100000 in
theorem imp_SEC {B : Nat} {w0 w : World} {b g : Nat} {m : Ms} (h : St B w0 b g m w) :
    Calls Tryz.prog 56 #[.pointer (some ⟨b, 0, none⟩), .string ⟨#[83, 69, 67]⟩] w fun e w' => e = .returned (.tuple #[]) ∧ St B w0 b g (m.imp [83, 69, 67]) w' := by
  have hA := h.cok
  obtain ⟨cap, cv, hc, hf, _, _⟩ := h.open_
  have h2 := h.setFC true
  have H2 := Lib.hid h2
  clear h2
  go_enter Tryz.func56, Tryz.ntmps56
  go_wp2
  go_returns
  exact ⟨rfl, H2.out⟩
set_option maxHeartbeats 1000000 in
set_option maxRecDepth 100000 in
theorem imp_CLI {B : Nat} {w0 w : World} {b g : Nat} {m : Ms} (h : St B w0 b g m w) :
    Calls Tryz.prog 56 #[.pointer (some ⟨b, 0, none⟩), .string ⟨#[67, 76, 73]⟩] w fun e w' => e = .returned (.tuple #[]) ∧ St B w0 b g (m.imp [67, 76, 73]) w' := by
  have hA := h.cok
  obtain ⟨cap, cv, hc, hf, _, _⟩ := h.open_
  have h2 := h.setFI false
  have H2 := Lib.hid h2
  clear h2
  go_enter Tryz.func56, Tryz.ntmps56
  go_wp2
  go_returns
  exact ⟨rfl, H2.out⟩
set_option maxHeartbeats 1000000 in
set_option maxRecDepth 100000 in
theorem imp_SEI {B : Nat} {w0 w : World} {b g : Nat} {m : Ms} (h : St B w0 b g m w) :
    Calls Tryz.prog 56 #[.pointer (some ⟨b, 0, none⟩), .string ⟨#[83, 69, 73]⟩] w fun e w' => e = .returned (.tuple #[]) ∧ St B w0 b g (m.imp [83, 69, 73]) w' := by
  have hA := h.cok
  obtain ⟨cap, cv, hc, hf, _, _⟩ := h.open_
  have h2 := h.setFI true
  have H2 := Lib.hid h2
  clear h2
  go_enter Tryz.func56, Tryz.ntmps56
  go_wp2
  go_returns
  exact ⟨rfl, H2.out⟩
set_option maxHeartbeats 1000000 in
set_option maxRecDepth 100000 in
theorem imp_CLD {B : Nat} {w0 w : World} {b g : Nat} {m : Ms} (h : St B w0 b g m w) :
    Calls Tryz.prog 56 #[.pointer (some ⟨b, 0, none⟩), .string ⟨#[67, 76, 68]⟩] w fun e w' => e = .returned (.tuple #[]) ∧ St B w0 b g (m.imp [67, 76, 68]) w' := by
  have hA := h.cok
  obtain ⟨cap, cv, hc, hf, _, _⟩ := h.open_
  have h2 := h.setFD false
  have H2 := Lib.hid h2
  clear h2
  go_enter Tryz.func56, Tryz.ntmps56
  go_wp2
  go_returns
  exact ⟨rfl, H2.out⟩
set_option maxHeartbeats 1000000 in
set_option maxRecDepth 100000 in
theorem imp_SED {B : Nat} {w0 w : World} {b g : Nat} {m : Ms} (h : St B w0 b g m w) :
    Calls Tryz.prog 56 #[.pointer (some ⟨b, 0, none⟩), .string ⟨#[83, 69, 68]⟩] w fun e w' => e = .returned (.tuple #[]) ∧ St B w0 b g (m.imp [83, 69, 68]) w' := by
  have hA := h.cok
  obtain ⟨cap, cv, hc, hf, _, _⟩ := h.open_
  have h2 := h.setFD true
  have H2 := Lib.hid h2
  clear h2
  go_enter Tryz.func56, Tryz.ntmps56
  go_wp2
  go_returns
  exact ⟨rfl, H2.out⟩
set_option maxHeartbeats 1000000 in
set_option maxRecDepth 100000 in
theorem imp_CLV {B : Nat} {w0 w : World} {b g : Nat} {m : Ms} (h : St B w0 b g m w) :
    Calls Tryz.prog 56 #[.pointer (some ⟨b, 0, none⟩), .string ⟨#[67, 76, 86]⟩] w fun e w' => e = .returned (.tuple #[]) ∧ St B w0 b g (m.imp [67, 76, 86]) w' := by
  have hA := h.cok
  obtain ⟨cap, cv, hc, hf, _, _⟩ := h.open_
  have h2 := h.setFV false
  have H2 := Lib.hid h2
  clear h2
  go_enter Tryz.func56, Tryz.ntmps56
  go_wp2
  go_returns
  exact ⟨rfl, H2.out⟩
set_option maxHeartbeats 1000000 in
set_option maxRecDepth 100000 in
theorem imp_other {B : Nat} {w0 w : World} {b g : Nat} {m : Ms} (h : St B w0 b g m w) (l : List UInt8) (hs : ∀ x ∈ ([[65, 83, 76], [76, 83, 82], [82, 79, 76], [82, 79, 82], [73, 78, 88], [73, 78, 89], [68, 69, 88], [68, 69, 89], [84, 65, 88], [84, 88, 65], [84, 65, 89], [84, 89, 65], [84, 83, 88], [84, 88, 83], [67, 76, 67], [83, 69, 67], [67, 76, 73], [83, 69, 73], [67, 76, 68], [83, 69, 68], [67, 76, 86]] : List (List UInt8)), (l == x) = false) :
    Calls Tryz.prog 56 #[.pointer (some ⟨b, 0, none⟩), .string ⟨l.toArray⟩] w fun e w' => e = .returned (.tuple #[]) ∧ St B w0 b g m w' := by
  simp only [List.mem_cons, List.not_mem_nil, or_false, forall_eq_or_imp, forall_eq] at hs
  obtain ⟨n0, n1, n2, n3, n4, n5, n6, n7, n8, n9, n10, n11, n12, n13, n14, n15, n16, n17, n18, n19, n20⟩ := hs
  go_enter Tryz.func56, Tryz.ntmps56
  go_wp2_with fail
  go_returns
  exact ⟨rfl, h⟩
theorem imp_c {B : Nat} {w0 w : World} {b g : Nat} {m : Ms} (h : St B w0 b g m w) (l : List UInt8) :
    Calls Tryz.prog 56 #[.pointer (some ⟨b, 0, none⟩), .string ⟨l.toArray⟩] w fun e w' => e = .returned (.tuple #[]) ∧ St B w0 b g (m.imp l) w' := by
  by_cases n0 : l = [65, 83, 76]
  · subst n0; exact imp_ASL h
  by_cases n1 : l = [76, 83, 82]
  · subst n1; exact imp_LSR h
  by_cases n2 : l = [82, 79, 76]
  · subst n2; exact imp_ROL h
  by_cases n3 : l = [82, 79, 82]
  · subst n3; exact imp_ROR h
  by_cases n4 : l = [73, 78, 88]
  · subst n4; exact imp_INX h
  by_cases n5 : l = [73, 78, 89]
  · subst n5; exact imp_INY h
  by_cases n6 : l = [68, 69, 88]
  · subst n6; exact imp_DEX h
  by_cases n7 : l = [68, 69, 89]
  · subst n7; exact imp_DEY h
  by_cases n8 : l = [84, 65, 88]
  · subst n8; exact imp_TAX h
  by_cases n9 : l = [84, 88, 65]
  · subst n9; exact imp_TXA h
  by_cases n10 : l = [84, 65, 89]
  · subst n10; exact imp_TAY h
  by_cases n11 : l = [84, 89, 65]
  · subst n11; exact imp_TYA h
  by_cases n12 : l = [84, 83, 88]
  · subst n12; exact imp_TSX h
  by_cases n13 : l = [84, 88, 83]
  · subst n13; exact imp_TXS h
  by_cases n14 : l = [67, 76, 67]
  · subst n14; exact imp_CLC h
  by_cases n15 : l = [83, 69, 67]
  · subst n15; exact imp_SEC h
  by_cases n16 : l = [67, 76, 73]
  · subst n16; exact imp_CLI h
  by_cases n17 : l = [83, 69, 73]
  · subst n17; exact imp_SEI h
  by_cases n18 : l = [67, 76, 68]
  · subst n18; exact imp_CLD h
  by_cases n19 : l = [83, 69, 68]
  · subst n19; exact imp_SED h
  by_cases n20 : l = [67, 76, 86]
  · subst n20; exact imp_CLV h
  have e2 : m.imp l = m := by simp only [Ms.imp, impF, n0, n1, n2, n3, n4, n5, n6, n7, n8, n9, n10, n11, n12, n13, n14, n15, n16, n17, n18, n19, n20, or_false, if_false]
  rw [e2]
  refine imp_other h l ?_
  simp only [List.mem_cons, List.not_mem_nil, or_false, forall_eq_or_imp, forall_eq, beq_eq_false_iff_ne, ne_eq]
  exact ⟨n0, n1, n2, n3, n4, n5, n6, n7, n8, n9, n10, n11, n12, n13, n14, n15, n16, n17, n18, n19, n20⟩
end Go.Proofs.YtemahcjglmhefaaGreatDoor
