/- The machine's method 'do', name by name. No condition. The machine's method 'do': sums and moves. No condition. -/
import Derived.Test.YtemahcjglmhefaaGreatDoorKMem
import Derived.Test.YtemahcjglmhefaaGreatDoorKOp
import Derived.Test.YtemahcjglmhefaaGreatDoorKLeaf3
import Derived.Test.YtemahcjglmhefaaGreatDoorKLeaf4
import Derived.Deep.RegionWith
namespace Go.Proofs.YtemahcjglmhefaaGreatDoor
set_option linter.unusedVariables false
set_option linter.unusedSimpArgs false
open Go.RowKit
attribute [local irreducible] World.setCell

set_option maxHeartbeats 1000000 in
set_option maxRecDepth 100000 in
theorem do_LDA {B : Nat} {w0 w : World} {b g : Nat} {m : Ms} (h : St B w0 b g m w) (v : Int) (hv : 0 ≤ v ∧ v < 256) :
    Calls Tryz.prog 78 #[.pointer (some ⟨b, 0, none⟩), .string ⟨#[76, 68, 65]⟩, .int .u8 v] w fun e w' => e = .returned (.int .u8 (doF [76, 68, 65] v m.c).1) ∧ St B w0 b g (m.do_ [76, 68, 65] v) w' := by
  have hA := h.cok
  obtain ⟨cap, cv, hc, hf, _, _⟩ := h.open_
  go_enter Tryz.func78, Tryz.ntmps78
  go_wp2_with (go_at_call 80; refine (NZ_c v m.c.f hv.1 hv.2 _).mono ?_; rintro e w1 ⟨rfl, hb1⟩; have h1 := h.later hb1; have H1 := Lib.hid h1; obtain ⟨cap1, cv1, kc, kf, _, _⟩ := h1.open_; clear h1)
  go_returns
  exact ⟨rfl, (H1.out.setA hv).setF _ _ _ _ _ _⟩
set_option maxHeartbeats 1000000 in
set_option maxRecDepth 100000 in
theorem do_LDX {B : Nat} {w0 w : World} {b g : Nat} {m : Ms} (h : St B w0 b g m w) (v : Int) (hv : 0 ≤ v ∧ v < 256) :
    Calls Tryz.prog 78 #[.pointer (some ⟨b, 0, none⟩), .string ⟨#[76, 68, 88]⟩, .int .u8 v] w fun e w' => e = .returned (.int .u8 (doF [76, 68, 88] v m.c).1) ∧ St B w0 b g (m.do_ [76, 68, 88] v) w' := by
  have hA := h.cok
  obtain ⟨cap, cv, hc, hf, _, _⟩ := h.open_
  go_enter Tryz.func78, Tryz.ntmps78
  go_wp2_with (go_at_call 80; refine (NZ_c v m.c.f hv.1 hv.2 _).mono ?_; rintro e w1 ⟨rfl, hb1⟩; have h1 := h.later hb1; have H1 := Lib.hid h1; obtain ⟨cap1, cv1, kc, kf, _, _⟩ := h1.open_; clear h1)
  go_returns
  exact ⟨rfl, (H1.out.setX hv).setF _ _ _ _ _ _⟩
set_option maxHeartbeats 1000000 in
set_option maxRecDepth 100000 in
theorem do_LDY {B : Nat} {w0 w : World} {b g : Nat} {m : Ms} (h : St B w0 b g m w) (v : Int) (hv : 0 ≤ v ∧ v < 256) :
    Calls Tryz.prog 78 #[.pointer (some ⟨b, 0, none⟩), .string ⟨#[76, 68, 89]⟩, .int .u8 v] w fun e w' => e = .returned (.int .u8 (doF [76, 68, 89] v m.c).1) ∧ St B w0 b g (m.do_ [76, 68, 89] v) w' := by
  have hA := h.cok
  obtain ⟨cap, cv, hc, hf, _, _⟩ := h.open_
  go_enter Tryz.func78, Tryz.ntmps78
  go_wp2_with (go_at_call 80; refine (NZ_c v m.c.f hv.1 hv.2 _).mono ?_; rintro e w1 ⟨rfl, hb1⟩; have h1 := h.later hb1; have H1 := Lib.hid h1; obtain ⟨cap1, cv1, kc, kf, _, _⟩ := h1.open_; clear h1)
  go_returns
  exact ⟨rfl, (H1.out.setY hv).setF _ _ _ _ _ _⟩
set_option maxHeartbeats 1000000 in
set_option maxRecDepth 100000 in
theorem do_ORA {B : Nat} {w0 w : World} {b g : Nat} {m : Ms} (h : St B w0 b g m w) (v : Int) (hv : 0 ≤ v ∧ v < 256) :
    Calls Tryz.prog 78 #[.pointer (some ⟨b, 0, none⟩), .string ⟨#[79, 82, 65]⟩, .int .u8 v] w fun e w' => e = .returned (.int .u8 (doF [79, 82, 65] v m.c).1) ∧ St B w0 b g (m.do_ [79, 82, 65] v) w' := by
  have hA := h.cok
  have hr := bits_u8_range .or (by simp) m.c.a v hA.1 hv
  obtain ⟨cap, cv, hc, hf, _, _⟩ := h.open_
  go_enter Tryz.func78, Tryz.ntmps78
  go_wp2_with (go_at_call 78; refine (do_LDA h _ hr).mono ?_; rintro e w1 ⟨rfl, h1⟩)
  go_returns
  exact ⟨rfl, h1⟩
set_option maxHeartbeats 1000000 in
set_option maxRecDepth 100000 in
theorem do_AND {B : Nat} {w0 w : World} {b g : Nat} {m : Ms} (h : St B w0 b g m w) (v : Int) (hv : 0 ≤ v ∧ v < 256) :
    Calls Tryz.prog 78 #[.pointer (some ⟨b, 0, none⟩), .string ⟨#[65, 78, 68]⟩, .int .u8 v] w fun e w' => e = .returned (.int .u8 (doF [65, 78, 68] v m.c).1) ∧ St B w0 b g (m.do_ [65, 78, 68] v) w' := by
  have hA := h.cok
  have hr := bits_u8_range .and (by simp) m.c.a v hA.1 hv
  obtain ⟨cap, cv, hc, hf, _, _⟩ := h.open_
  go_enter Tryz.func78, Tryz.ntmps78
  go_wp2_with (go_at_call 78; refine (do_LDA h _ hr).mono ?_; rintro e w1 ⟨rfl, h1⟩)
  go_returns
  exact ⟨rfl, h1⟩
set_option maxHeartbeats 1000000 in
set_option maxRecDepth 100000 in
theorem do_EOR {B : Nat} {w0 w : World} {b g : Nat} {m : Ms} (h : St B w0 b g m w) (v : Int) (hv : 0 ≤ v ∧ v < 256) :
    Calls Tryz.prog 78 #[.pointer (some ⟨b, 0, none⟩), .string ⟨#[69, 79, 82]⟩, .int .u8 v] w fun e w' => e = .returned (.int .u8 (doF [69, 79, 82] v m.c).1) ∧ St B w0 b g (m.do_ [69, 79, 82] v) w' := by
  have hA := h.cok
  have hr := bits_u8_range .xor (by simp) m.c.a v hA.1 hv
  obtain ⟨cap, cv, hc, hf, _, _⟩ := h.open_
  go_enter Tryz.func78, Tryz.ntmps78
  go_wp2_with (go_at_call 78; refine (do_LDA h _ hr).mono ?_; rintro e w1 ⟨rfl, h1⟩)
  go_returns
  exact ⟨rfl, h1⟩
set_option maxHeartbeats 1000000 in
set_option maxRecDepth 100000 in
theorem do_INC {B : Nat} {w0 w : World} {b g : Nat} {m : Ms} (h : St B w0 b g m w) (v : Int) (hv : 0 ≤ v ∧ v < 256) :
    Calls Tryz.prog 78 #[.pointer (some ⟨b, 0, none⟩), .string ⟨#[73, 78, 67]⟩, .int .u8 v] w fun e w' => e = .returned (.int .u8 (doF [73, 78, 67] v m.c).1) ∧ St B w0 b g (m.do_ [73, 78, 67] v) w' := by
  have hA := h.cok
  obtain ⟨cap, cv, hc, hf, _, _⟩ := h.open_
  go_enter Tryz.func78, Tryz.ntmps78
  go_wp2_with (go_at_call 80; refine (NZ_c ((v + 1) % 256) m.c.f (by omega) (by omega) _).mono ?_; rintro e w1 ⟨rfl, hb1⟩; have h1 := h.later hb1; have H1 := Lib.hid h1; obtain ⟨cap1, cv1, kc, kf, _, _⟩ := h1.open_; clear h1)
  go_returns
  exact ⟨rfl, H1.out.setF _ _ _ _ _ _⟩
set_option maxHeartbeats 1000000 in
set_option maxRecDepth 100000 in
theorem do_DEC {B : Nat} {w0 w : World} {b g : Nat} {m : Ms} (h : St B w0 b g m w) (v : Int) (hv : 0 ≤ v ∧ v < 256) :
    Calls Tryz.prog 78 #[.pointer (some ⟨b, 0, none⟩), .string ⟨#[68, 69, 67]⟩, .int .u8 v] w fun e w' => e = .returned (.int .u8 (doF [68, 69, 67] v m.c).1) ∧ St B w0 b g (m.do_ [68, 69, 67] v) w' := by
  have hA := h.cok
  obtain ⟨cap, cv, hc, hf, _, _⟩ := h.open_
  go_enter Tryz.func78, Tryz.ntmps78
  go_wp2_with (go_at_call 80; refine (NZ_c ((v - 1) % 256) m.c.f (by omega) (by omega) _).mono ?_; rintro e w1 ⟨rfl, hb1⟩; have h1 := h.later hb1; have H1 := Lib.hid h1; obtain ⟨cap1, cv1, kc, kf, _, _⟩ := h1.open_; clear h1)
  go_returns
  exact ⟨rfl, H1.out.setF _ _ _ _ _ _⟩
end Go.Proofs.YtemahcjglmhefaaGreatDoor
namespace Go.Proofs.YtemahcjglmhefaaGreatDoor
set_option linter.unusedVariables false
set_option linter.unusedSimpArgs false
open Go.RowKit
attribute [local irreducible] World.setCell

set_option maxHeartbeats 1000000 in
set_option maxRecDepth 100000 in
theorem do_ADC {B : Nat} {w0 w : World} {b g : Nat} {m : Ms} (h : St B w0 b g m w) (v : Int) (hv : 0 ≤ v ∧ v < 256) :
    Calls Tryz.prog 78 #[.pointer (some ⟨b, 0, none⟩), .string ⟨#[65, 68, 67]⟩, .int .u8 v] w fun e w' => e = .returned (.int .u8 (doF [65, 68, 67] v m.c).1) ∧ St B w0 b g (m.do_ [65, 68, 67] v) w' := by
  have hA := h.cok
  obtain ⟨cap, cv, hc, hf, _, _⟩ := h.open_
  go_enter Tryz.func78, Tryz.ntmps78
  go_wp2_with fail
  go_region_with (go_at_call 91; refine (Adc_c m.c.a v m.c.f (by unfold Cp.ok at hA; omega) (by unfold Cp.ok at hA; omega) hv.1 hv.2 _).mono ?_; rintro e w1 ⟨rfl, hb1⟩; have h1 := h.drew.later hb1; have H1 := Lib.hid h1; obtain ⟨cap1, cv1, kc, kf, _, _⟩ := h1.open_; clear h1)
  all_goals go_wp2
  all_goals go_returns
  all_goals exact ⟨rfl, (H1.out.setA (adcF_ok _ _ _)).setF _ _ _ _ _ _⟩
set_option maxHeartbeats 1000000 in
set_option maxRecDepth 100000 in
theorem do_SBC {B : Nat} {w0 w : World} {b g : Nat} {m : Ms} (h : St B w0 b g m w) (v : Int) (hv : 0 ≤ v ∧ v < 256) :
    Calls Tryz.prog 78 #[.pointer (some ⟨b, 0, none⟩), .string ⟨#[83, 66, 67]⟩, .int .u8 v] w fun e w' => e = .returned (.int .u8 (doF [83, 66, 67] v m.c).1) ∧ St B w0 b g (m.do_ [83, 66, 67] v) w' := by
  have hA := h.cok
  obtain ⟨cap, cv, hc, hf, _, _⟩ := h.open_
  go_enter Tryz.func78, Tryz.ntmps78
  go_wp2_with fail
  go_region_with (go_at_call 92; refine (Sbc_c m.c.a v m.c.f (by unfold Cp.ok at hA; omega) (by unfold Cp.ok at hA; omega) hv.1 hv.2 _).mono ?_; rintro e w1 ⟨rfl, hb1⟩; have h1 := h.drew.later hb1; have H1 := Lib.hid h1; obtain ⟨cap1, cv1, kc, kf, _, _⟩ := h1.open_; clear h1)
  all_goals go_wp2
  all_goals go_returns
  all_goals exact ⟨rfl, (H1.out.setA (sbcF_ok _ _ _)).setF _ _ _ _ _ _⟩
set_option maxHeartbeats 1000000 in
set_option maxRecDepth 100000 in
theorem do_CMP {B : Nat} {w0 w : World} {b g : Nat} {m : Ms} (h : St B w0 b g m w) (v : Int) (hv : 0 ≤ v ∧ v < 256) :
    Calls Tryz.prog 78 #[.pointer (some ⟨b, 0, none⟩), .string ⟨#[67, 77, 80]⟩, .int .u8 v] w fun e w' => e = .returned (.int .u8 (doF [67, 77, 80] v m.c).1) ∧ St B w0 b g (m.do_ [67, 77, 80] v) w' := by
  have hA := h.cok
  obtain ⟨cap, cv, hc, hf, _, _⟩ := h.open_
  go_enter Tryz.func78, Tryz.ntmps78
  go_wp2_with fail
  go_region_with (go_at_call 93; refine (Cmp_c m.c.a v m.c.f (by unfold Cp.ok at hA; omega) (by unfold Cp.ok at hA; omega) hv.1 hv.2 _).mono ?_; rintro e w1 ⟨rfl, hb1⟩; have h1 := h.drew.later hb1; have H1 := Lib.hid h1; obtain ⟨cap1, cv1, kc, kf, _, _⟩ := h1.open_; clear h1)
  all_goals go_wp2
  all_goals go_returns
  all_goals exact ⟨rfl, H1.out.setF _ _ _ _ _ _⟩
set_option maxHeartbeats 1000000 in
set_option maxRecDepth 100000 in
theorem do_CPX {B : Nat} {w0 w : World} {b g : Nat} {m : Ms} (h : St B w0 b g m w) (v : Int) (hv : 0 ≤ v ∧ v < 256) :
    Calls Tryz.prog 78 #[.pointer (some ⟨b, 0, none⟩), .string ⟨#[67, 80, 88]⟩, .int .u8 v] w fun e w' => e = .returned (.int .u8 (doF [67, 80, 88] v m.c).1) ∧ St B w0 b g (m.do_ [67, 80, 88] v) w' := by
  have hA := h.cok
  obtain ⟨cap, cv, hc, hf, _, _⟩ := h.open_
  go_enter Tryz.func78, Tryz.ntmps78
  go_wp2_with fail
  go_region_with (go_at_call 93; refine (Cmp_c m.c.x v m.c.f (by unfold Cp.ok at hA; omega) (by unfold Cp.ok at hA; omega) hv.1 hv.2 _).mono ?_; rintro e w1 ⟨rfl, hb1⟩; have h1 := h.drew.later hb1; have H1 := Lib.hid h1; obtain ⟨cap1, cv1, kc, kf, _, _⟩ := h1.open_; clear h1)
  all_goals go_wp2
  all_goals go_returns
  all_goals exact ⟨rfl, H1.out.setF _ _ _ _ _ _⟩
set_option maxHeartbeats 1000000 in
set_option maxRecDepth 100000 in
theorem do_CPY {B : Nat} {w0 w : World} {b g : Nat} {m : Ms} (h : St B w0 b g m w) (v : Int) (hv : 0 ≤ v ∧ v < 256) :
    Calls Tryz.prog 78 #[.pointer (some ⟨b, 0, none⟩), .string ⟨#[67, 80, 89]⟩, .int .u8 v] w fun e w' => e = .returned (.int .u8 (doF [67, 80, 89] v m.c).1) ∧ St B w0 b g (m.do_ [67, 80, 89] v) w' := by
  have hA := h.cok
  obtain ⟨cap, cv, hc, hf, _, _⟩ := h.open_
  go_enter Tryz.func78, Tryz.ntmps78
  go_wp2_with fail
  go_region_with (go_at_call 93; refine (Cmp_c m.c.y v m.c.f (by unfold Cp.ok at hA; omega) (by unfold Cp.ok at hA; omega) hv.1 hv.2 _).mono ?_; rintro e w1 ⟨rfl, hb1⟩; have h1 := h.drew.later hb1; have H1 := Lib.hid h1; obtain ⟨cap1, cv1, kc, kf, _, _⟩ := h1.open_; clear h1)
  all_goals go_wp2
  all_goals go_returns
  all_goals exact ⟨rfl, H1.out.setF _ _ _ _ _ _⟩
set_option maxHeartbeats 1000000 in
set_option maxRecDepth 100000 in
theorem do_BIT {B : Nat} {w0 w : World} {b g : Nat} {m : Ms} (h : St B w0 b g m w) (v : Int) (hv : 0 ≤ v ∧ v < 256) :
    Calls Tryz.prog 78 #[.pointer (some ⟨b, 0, none⟩), .string ⟨#[66, 73, 84]⟩, .int .u8 v] w fun e w' => e = .returned (.int .u8 (doF [66, 73, 84] v m.c).1) ∧ St B w0 b g (m.do_ [66, 73, 84] v) w' := by
  have hA := h.cok
  obtain ⟨cap, cv, hc, hf, _, _⟩ := h.open_
  go_enter Tryz.func78, Tryz.ntmps78
  go_wp2_with fail
  go_region_with (go_at_call 94; refine (BitTest_c m.c.a v m.c.f (by unfold Cp.ok at hA; omega) (by unfold Cp.ok at hA; omega) hv.1 hv.2 _).mono ?_; rintro e w1 ⟨rfl, hb1⟩; have h1 := h.drew.later hb1; have H1 := Lib.hid h1; obtain ⟨cap1, cv1, kc, kf, _, _⟩ := h1.open_; clear h1)
  all_goals go_wp2
  all_goals go_returns
  all_goals exact ⟨rfl, H1.out.setF _ _ _ _ _ _⟩
set_option maxHeartbeats 1000000 in
set_option maxRecDepth 100000 in
theorem do_ASL {B : Nat} {w0 w : World} {b g : Nat} {m : Ms} (h : St B w0 b g m w) (v : Int) (hv : 0 ≤ v ∧ v < 256) :
    Calls Tryz.prog 78 #[.pointer (some ⟨b, 0, none⟩), .string ⟨#[65, 83, 76]⟩, .int .u8 v] w fun e w' => e = .returned (.int .u8 (doF [65, 83, 76] v m.c).1) ∧ St B w0 b g (m.do_ [65, 83, 76] v) w' := by
  have hA := h.cok
  obtain ⟨cap, cv, hc, hf, _, _⟩ := h.open_
  go_enter Tryz.func78, Tryz.ntmps78
  go_wp2_with (go_at_call 95; refine (Asl_c v m.c.f hv.1 hv.2 _).mono ?_; rintro e w1 ⟨rfl, hb1⟩; have h1 := h.later hb1; have H1 := Lib.hid h1; obtain ⟨cap1, cv1, kc, kf, _, _⟩ := h1.open_; clear h1)
  go_returns
  exact ⟨rfl, H1.out.setF _ _ _ _ _ _⟩
set_option maxHeartbeats 1000000 in
set_option maxRecDepth 100000 in
theorem do_LSR {B : Nat} {w0 w : World} {b g : Nat} {m : Ms} (h : St B w0 b g m w) (v : Int) (hv : 0 ≤ v ∧ v < 256) :
    Calls Tryz.prog 78 #[.pointer (some ⟨b, 0, none⟩), .string ⟨#[76, 83, 82]⟩, .int .u8 v] w fun e w' => e = .returned (.int .u8 (doF [76, 83, 82] v m.c).1) ∧ St B w0 b g (m.do_ [76, 83, 82] v) w' := by
  have hA := h.cok
  obtain ⟨cap, cv, hc, hf, _, _⟩ := h.open_
  go_enter Tryz.func78, Tryz.ntmps78
  go_wp2_with (go_at_call 96; refine (Lsr_c v m.c.f hv.1 hv.2 _).mono ?_; rintro e w1 ⟨rfl, hb1⟩; have h1 := h.later hb1; have H1 := Lib.hid h1; obtain ⟨cap1, cv1, kc, kf, _, _⟩ := h1.open_; clear h1)
  go_returns
  exact ⟨rfl, H1.out.setF _ _ _ _ _ _⟩
set_option maxHeartbeats 1000000 in
set_option maxRecDepth 100000 in
theorem do_ROL {B : Nat} {w0 w : World} {b g : Nat} {m : Ms} (h : St B w0 b g m w) (v : Int) (hv : 0 ≤ v ∧ v < 256) :
    Calls Tryz.prog 78 #[.pointer (some ⟨b, 0, none⟩), .string ⟨#[82, 79, 76]⟩, .int .u8 v] w fun e w' => e = .returned (.int .u8 (doF [82, 79, 76] v m.c).1) ∧ St B w0 b g (m.do_ [82, 79, 76] v) w' := by
  have hA := h.cok
  obtain ⟨cap, cv, hc, hf, _, _⟩ := h.open_
  go_enter Tryz.func78, Tryz.ntmps78
  go_wp2_with (go_at_call 97; refine (Rol_c v m.c.f hv.1 hv.2 _).mono ?_; rintro e w1 ⟨rfl, hb1⟩; have h1 := h.later hb1; have H1 := Lib.hid h1; obtain ⟨cap1, cv1, kc, kf, _, _⟩ := h1.open_; clear h1)
  go_returns
  exact ⟨rfl, H1.out.setF _ _ _ _ _ _⟩
set_option maxHeartbeats 1000000 in
set_option maxRecDepth 100000 in
theorem do_ROR {B : Nat} {w0 w : World} {b g : Nat} {m : Ms} (h : St B w0 b g m w) (v : Int) (hv : 0 ≤ v ∧ v < 256) :
    Calls Tryz.prog 78 #[.pointer (some ⟨b, 0, none⟩), .string ⟨#[82, 79, 82]⟩, .int .u8 v] w fun e w' => e = .returned (.int .u8 (doF [82, 79, 82] v m.c).1) ∧ St B w0 b g (m.do_ [82, 79, 82] v) w' := by
  have hA := h.cok
  obtain ⟨cap, cv, hc, hf, _, _⟩ := h.open_
  go_enter Tryz.func78, Tryz.ntmps78
  go_wp2_with (go_at_call 98; refine (Ror_c v m.c.f hv.1 hv.2 _).mono ?_; rintro e w1 ⟨rfl, hb1⟩; have h1 := h.later hb1; have H1 := Lib.hid h1; obtain ⟨cap1, cv1, kc, kf, _, _⟩ := h1.open_; clear h1)
  go_returns
  exact ⟨rfl, H1.out.setF _ _ _ _ _ _⟩
set_option maxHeartbeats 1000000 in
set_option maxRecDepth 100000 in
theorem do_other {B : Nat} {w0 w : World} {b g : Nat} {m : Ms} (h : St B w0 b g m w) (l : List UInt8) (v : Int) (hv : 0 ≤ v ∧ v < 256) (hs : ∀ x ∈ ([[76, 68, 65], [76, 68, 88], [76, 68, 89], [79, 82, 65], [65, 78, 68], [69, 79, 82], [65, 68, 67], [83, 66, 67], [67, 77, 80], [67, 80, 88], [67, 80, 89], [66, 73, 84], [65, 83, 76], [76, 83, 82], [82, 79, 76], [82, 79, 82], [73, 78, 67], [68, 69, 67]] : List (List UInt8)), (l == x) = false) :
    Calls Tryz.prog 78 #[.pointer (some ⟨b, 0, none⟩), .string ⟨l.toArray⟩, .int .u8 v] w fun e w' => e = .returned (.int .u8 v) ∧ St B w0 b g m w' := by
  simp only [List.mem_cons, List.not_mem_nil, or_false, forall_eq_or_imp, forall_eq] at hs
  obtain ⟨n0, n1, n2, n3, n4, n5, n6, n7, n8, n9, n10, n11, n12, n13, n14, n15, n16, n17⟩ := hs
  go_enter Tryz.func78, Tryz.ntmps78
  go_wp2_with fail
  go_returns
  exact ⟨rfl, h⟩
end Go.Proofs.YtemahcjglmhefaaGreatDoor
