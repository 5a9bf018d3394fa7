/- The machine's method 'do': sums and moves. No condition. -/
import Derived.Test.YtemahcjglmhefaaDoorDo1
import Derived.Deep.RegionWith
namespace Go.Proofs.YtemahcjglmhefaaDoor
open Go.RowKit
attribute [local irreducible] World.setCell

set_option maxHeartbeats 1000000 in
set_option maxRecDepth 100000 in
theorem do_ADC {B : Nat} {w0 w : World} {b g : Nat} {m : Ms} (h : St B w0 b g m w) (v : Int) (hv : 0 ≤ v ∧ v < 256) :
    Calls Tryd.prog 62 #[.pointer (some ⟨b, 0, none⟩), .string ⟨#[65, 68, 67]⟩, .int .u8 v] w fun e w' => e = .returned (.int .u8 (doF [65, 68, 67] v m.c).1) ∧ St B w0 b g (m.do_ [65, 68, 67] v) w' := by
  have hA := h.cok
  obtain ⟨cap, cv, hc, hf, _, _⟩ := h.open_
  go_enter Tryd.func62, Tryd.ntmps62
  go_wp2_with fail
  go_region_with (go_at_call 77; refine (Adc_c m.c.a v m.c.f (by unfold Cp.ok at hA; omega) (by unfold Cp.ok at hA; omega) hv.1 hv.2 _).mono ?_; rintro e w1 ⟨rfl, hb1⟩; have h1 := h.drew.later hb1; have H1 := Lib.hid h1; obtain ⟨cap1, cv1, kc, kf, _, _⟩ := h1.open_; clear h1)
  all_goals go_wp2
  all_goals go_returns
  all_goals exact ⟨rfl, (H1.out.setA (adcF_ok _ _ _)).setF _ _ _ _ _ _⟩
set_option maxHeartbeats 1000000 in
set_option maxRecDepth 100000 in
theorem do_SBC {B : Nat} {w0 w : World} {b g : Nat} {m : Ms} (h : St B w0 b g m w) (v : Int) (hv : 0 ≤ v ∧ v < 256) :
    Calls Tryd.prog 62 #[.pointer (some ⟨b, 0, none⟩), .string ⟨#[83, 66, 67]⟩, .int .u8 v] w fun e w' => e = .returned (.int .u8 (doF [83, 66, 67] v m.c).1) ∧ St B w0 b g (m.do_ [83, 66, 67] v) w' := by
  have hA := h.cok
  obtain ⟨cap, cv, hc, hf, _, _⟩ := h.open_
  go_enter Tryd.func62, Tryd.ntmps62
  go_wp2_with fail
  go_region_with (go_at_call 78; refine (Sbc_c m.c.a v m.c.f (by unfold Cp.ok at hA; omega) (by unfold Cp.ok at hA; omega) hv.1 hv.2 _).mono ?_; rintro e w1 ⟨rfl, hb1⟩; have h1 := h.drew.later hb1; have H1 := Lib.hid h1; obtain ⟨cap1, cv1, kc, kf, _, _⟩ := h1.open_; clear h1)
  all_goals go_wp2
  all_goals go_returns
  all_goals exact ⟨rfl, (H1.out.setA (sbcF_ok _ _ _)).setF _ _ _ _ _ _⟩
set_option maxHeartbeats 1000000 in
set_option maxRecDepth 100000 in
theorem do_CMP {B : Nat} {w0 w : World} {b g : Nat} {m : Ms} (h : St B w0 b g m w) (v : Int) (hv : 0 ≤ v ∧ v < 256) :
    Calls Tryd.prog 62 #[.pointer (some ⟨b, 0, none⟩), .string ⟨#[67, 77, 80]⟩, .int .u8 v] w fun e w' => e = .returned (.int .u8 (doF [67, 77, 80] v m.c).1) ∧ St B w0 b g (m.do_ [67, 77, 80] v) w' := by
  have hA := h.cok
  obtain ⟨cap, cv, hc, hf, _, _⟩ := h.open_
  go_enter Tryd.func62, Tryd.ntmps62
  go_wp2_with fail
  go_region_with (go_at_call 79; refine (Cmp_c m.c.a v m.c.f (by unfold Cp.ok at hA; omega) (by unfold Cp.ok at hA; omega) hv.1 hv.2 _).mono ?_; rintro e w1 ⟨rfl, hb1⟩; have h1 := h.drew.later hb1; have H1 := Lib.hid h1; obtain ⟨cap1, cv1, kc, kf, _, _⟩ := h1.open_; clear h1)
  all_goals go_wp2
  all_goals go_returns
  all_goals exact ⟨rfl, H1.out.setF _ _ _ _ _ _⟩
set_option maxHeartbeats 1000000 in
set_option maxRecDepth 100000 in
theorem do_CPX {B : Nat} {w0 w : World} {b g : Nat} {m : Ms} (h : St B w0 b g m w) (v : Int) (hv : 0 ≤ v ∧ v < 256) :
    Calls Tryd.prog 62 #[.pointer (some ⟨b, 0, none⟩), .string ⟨#[67, 80, 88]⟩, .int .u8 v] w fun e w' => e = .returned (.int .u8 (doF [67, 80, 88] v m.c).1) ∧ St B w0 b g (m.do_ [67, 80, 88] v) w' := by
  have hA := h.cok
  obtain ⟨cap, cv, hc, hf, _, _⟩ := h.open_
  go_enter Tryd.func62, Tryd.ntmps62
  go_wp2_with fail
  go_region_with (go_at_call 79; refine (Cmp_c m.c.x v m.c.f (by unfold Cp.ok at hA; omega) (by unfold Cp.ok at hA; omega) hv.1 hv.2 _).mono ?_; rintro e w1 ⟨rfl, hb1⟩; have h1 := h.drew.later hb1; have H1 := Lib.hid h1; obtain ⟨cap1, cv1, kc, kf, _, _⟩ := h1.open_; clear h1)
  all_goals go_wp2
  all_goals go_returns
  all_goals exact ⟨rfl, H1.out.setF _ _ _ _ _ _⟩
set_option maxHeartbeats 1000000 in
set_option maxRecDepth 100000 in
theorem do_CPY {B : Nat} {w0 w : World} {b g : Nat} {m : Ms} (h : St B w0 b g m w) (v : Int) (hv : 0 ≤ v ∧ v < 256) :
    Calls Tryd.prog 62 #[.pointer (some ⟨b, 0, none⟩), .string ⟨#[67, 80, 89]⟩, .int .u8 v] w fun e w' => e = .returned (.int .u8 (doF [67, 80, 89] v m.c).1) ∧ St B w0 b g (m.do_ [67, 80, 89] v) w' := by
  have hA := h.cok
  obtain ⟨cap, cv, hc, hf, _, _⟩ := h.open_
  go_enter Tryd.func62, Tryd.ntmps62
  go_wp2_with fail
  go_region_with (go_at_call 79; refine (Cmp_c m.c.y v m.c.f (by unfold Cp.ok at hA; omega) (by unfold Cp.ok at hA; omega) hv.1 hv.2 _).mono ?_; rintro e w1 ⟨rfl, hb1⟩; have h1 := h.drew.later hb1; have H1 := Lib.hid h1; obtain ⟨cap1, cv1, kc, kf, _, _⟩ := h1.open_; clear h1)
  all_goals go_wp2
  all_goals go_returns
  all_goals exact ⟨rfl, H1.out.setF _ _ _ _ _ _⟩
set_option maxHeartbeats 1000000 in
set_option maxRecDepth 100000 in
theorem do_BIT {B : Nat} {w0 w : World} {b g : Nat} {m : Ms} (h : St B w0 b g m w) (v : Int) (hv : 0 ≤ v ∧ v < 256) :
    Calls Tryd.prog 62 #[.pointer (some ⟨b, 0, none⟩), .string ⟨#[66, 73, 84]⟩, .int .u8 v] w fun e w' => e = .returned (.int .u8 (doF [66, 73, 84] v m.c).1) ∧ St B w0 b g (m.do_ [66, 73, 84] v) w' := by
  have hA := h.cok
  obtain ⟨cap, cv, hc, hf, _, _⟩ := h.open_
  go_enter Tryd.func62, Tryd.ntmps62
  go_wp2_with fail
  go_region_with (go_at_call 80; refine (BitTest_c m.c.a v m.c.f (by unfold Cp.ok at hA; omega) (by unfold Cp.ok at hA; omega) hv.1 hv.2 _).mono ?_; rintro e w1 ⟨rfl, hb1⟩; have h1 := h.drew.later hb1; have H1 := Lib.hid h1; obtain ⟨cap1, cv1, kc, kf, _, _⟩ := h1.open_; clear h1)
  all_goals go_wp2
  all_goals go_returns
  all_goals exact ⟨rfl, H1.out.setF _ _ _ _ _ _⟩
set_option maxHeartbeats 1000000 in
set_option maxRecDepth 100000 in
theorem do_ASL {B : Nat} {w0 w : World} {b g : Nat} {m : Ms} (h : St B w0 b g m w) (v : Int) (hv : 0 ≤ v ∧ v < 256) :
    Calls Tryd.prog 62 #[.pointer (some ⟨b, 0, none⟩), .string ⟨#[65, 83, 76]⟩, .int .u8 v] w fun e w' => e = .returned (.int .u8 (doF [65, 83, 76] v m.c).1) ∧ St B w0 b g (m.do_ [65, 83, 76] v) w' := by
  have hA := h.cok
  obtain ⟨cap, cv, hc, hf, _, _⟩ := h.open_
  go_enter Tryd.func62, Tryd.ntmps62
  go_wp2_with (go_at_call 81; refine (Asl_c v m.c.f hv.1 hv.2 _).mono ?_; rintro e w1 ⟨rfl, hb1⟩; have h1 := h.later hb1; have H1 := Lib.hid h1; obtain ⟨cap1, cv1, kc, kf, _, _⟩ := h1.open_; clear h1)
  go_returns
  exact ⟨rfl, H1.out.setF _ _ _ _ _ _⟩
set_option maxHeartbeats 1000000 in
set_option maxRecDepth 100000 in
theorem do_LSR {B : Nat} {w0 w : World} {b g : Nat} {m : Ms} (h : St B w0 b g m w) (v : Int) (hv : 0 ≤ v ∧ v < 256) :
    Calls Tryd.prog 62 #[.pointer (some ⟨b, 0, none⟩), .string ⟨#[76, 83, 82]⟩, .int .u8 v] w fun e w' => e = .returned (.int .u8 (doF [76, 83, 82] v m.c).1) ∧ St B w0 b g (m.do_ [76, 83, 82] v) w' := by
  have hA := h.cok
  obtain ⟨cap, cv, hc, hf, _, _⟩ := h.open_
  go_enter Tryd.func62, Tryd.ntmps62
  go_wp2_with (go_at_call 82; refine (Lsr_c v m.c.f hv.1 hv.2 _).mono ?_; rintro e w1 ⟨rfl, hb1⟩; have h1 := h.later hb1; have H1 := Lib.hid h1; obtain ⟨cap1, cv1, kc, kf, _, _⟩ := h1.open_; clear h1)
  go_returns
  exact ⟨rfl, H1.out.setF _ _ _ _ _ _⟩
set_option maxHeartbeats 1000000 in
set_option maxRecDepth 100000 in
theorem do_ROL {B : Nat} {w0 w : World} {b g : Nat} {m : Ms} (h : St B w0 b g m w) (v : Int) (hv : 0 ≤ v ∧ v < 256) :
    Calls Tryd.prog 62 #[.pointer (some ⟨b, 0, none⟩), .string ⟨#[82, 79, 76]⟩, .int .u8 v] w fun e w' => e = .returned (.int .u8 (doF [82, 79, 76] v m.c).1) ∧ St B w0 b g (m.do_ [82, 79, 76] v) w' := by
  have hA := h.cok
  obtain ⟨cap, cv, hc, hf, _, _⟩ := h.open_
  go_enter Tryd.func62, Tryd.ntmps62
  go_wp2_with (go_at_call 83; refine (Rol_c v m.c.f hv.1 hv.2 _).mono ?_; rintro e w1 ⟨rfl, hb1⟩; have h1 := h.later hb1; have H1 := Lib.hid h1; obtain ⟨cap1, cv1, kc, kf, _, _⟩ := h1.open_; clear h1)
  go_returns
  exact ⟨rfl, H1.out.setF _ _ _ _ _ _⟩
set_option maxHeartbeats 1000000 in
set_option maxRecDepth 100000 in
theorem do_ROR {B : Nat} {w0 w : World} {b g : Nat} {m : Ms} (h : St B w0 b g m w) (v : Int) (hv : 0 ≤ v ∧ v < 256) :
    Calls Tryd.prog 62 #[.pointer (some ⟨b, 0, none⟩), .string ⟨#[82, 79, 82]⟩, .int .u8 v] w fun e w' => e = .returned (.int .u8 (doF [82, 79, 82] v m.c).1) ∧ St B w0 b g (m.do_ [82, 79, 82] v) w' := by
  have hA := h.cok
  obtain ⟨cap, cv, hc, hf, _, _⟩ := h.open_
  go_enter Tryd.func62, Tryd.ntmps62
  go_wp2_with (go_at_call 84; refine (Ror_c v m.c.f hv.1 hv.2 _).mono ?_; rintro e w1 ⟨rfl, hb1⟩; have h1 := h.later hb1; have H1 := Lib.hid h1; obtain ⟨cap1, cv1, kc, kf, _, _⟩ := h1.open_; clear h1)
  go_returns
  exact ⟨rfl, H1.out.setF _ _ _ _ _ _⟩
set_option maxHeartbeats 1000000 in
set_option maxRecDepth 100000 in
theorem do_other {B : Nat} {w0 w : World} {b g : Nat} {m : Ms} (h : St B w0 b g m w) (l : List UInt8) (v : Int) (hv : 0 ≤ v ∧ v < 256) (hs : ∀ x ∈ ([[76, 68, 65], [76, 68, 88], [76, 68, 89], [79, 82, 65], [65, 78, 68], [69, 79, 82], [65, 68, 67], [83, 66, 67], [67, 77, 80], [67, 80, 88], [67, 80, 89], [66, 73, 84], [65, 83, 76], [76, 83, 82], [82, 79, 76], [82, 79, 82], [73, 78, 67], [68, 69, 67]] : List (List UInt8)), (l == x) = false) :
    Calls Tryd.prog 62 #[.pointer (some ⟨b, 0, none⟩), .string ⟨l.toArray⟩, .int .u8 v] w fun e w' => e = .returned (.int .u8 v) ∧ St B w0 b g m w' := by
  simp only [List.mem_cons, List.not_mem_nil, or_false, forall_eq_or_imp, forall_eq] at hs
  obtain ⟨n0, n1, n2, n3, n4, n5, n6, n7, n8, n9, n10, n11, n12, n13, n14, n15, n16, n17⟩ := hs
  go_enter Tryd.func62, Tryd.ntmps62
  go_wp2_with fail
  go_returns
  exact ⟨rfl, h⟩
end Go.Proofs.YtemahcjglmhefaaDoor
