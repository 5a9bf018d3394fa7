/- The machine's method 'do', name by name. No condition. -/
import Derived.Test.YtemahcjglmhefaaDoorStep1
import Derived.Test.YtemahcjglmhefaaDoorPure3
import Derived.Test.YtemahcjglmhefaaDoorLeaf3
import Derived.Test.YtemahcjglmhefaaDoorLeaf4
namespace Go.Proofs.YtemahcjglmhefaaDoor
open Go.RowKit
attribute [local irreducible] World.setCell

set_option maxHeartbeats 1000000 in
set_option maxRecDepth 100000 in
theorem do_LDA {B : Nat} {w0 w : World} {b g : Nat} {m : Ms} (h : St B w0 b g m w) (v : Int) (hv : 0 ≤ v ∧ v < 256) :
    Calls Tryd.prog 62 #[.pointer (some ⟨b, 0, none⟩), .string ⟨#[76, 68, 65]⟩, .int .u8 v] w fun e w' => e = .returned (.int .u8 (doF [76, 68, 65] v m.c).1) ∧ St B w0 b g (m.do_ [76, 68, 65] v) w' := by
  have hA := h.cok
  obtain ⟨cap, cv, hc, hf, _, _⟩ := h.open_
  go_enter Tryd.func62, Tryd.ntmps62
  go_wp2_with (go_at_call 64; refine (NZ_c v m.c.f hv.1 hv.2 _).mono ?_; rintro e w1 ⟨rfl, hb1⟩; have h1 := h.later hb1; have H1 := Lib.hid h1; obtain ⟨cap1, cv1, kc, kf, _, _⟩ := h1.open_; clear h1)
  go_returns
  exact ⟨rfl, (H1.out.setA hv).setF _ _ _ _ _ _⟩
set_option maxHeartbeats 1000000 in
set_option maxRecDepth 100000 in
theorem do_LDX {B : Nat} {w0 w : World} {b g : Nat} {m : Ms} (h : St B w0 b g m w) (v : Int) (hv : 0 ≤ v ∧ v < 256) :
    Calls Tryd.prog 62 #[.pointer (some ⟨b, 0, none⟩), .string ⟨#[76, 68, 88]⟩, .int .u8 v] w fun e w' => e = .returned (.int .u8 (doF [76, 68, 88] v m.c).1) ∧ St B w0 b g (m.do_ [76, 68, 88] v) w' := by
  have hA := h.cok
  obtain ⟨cap, cv, hc, hf, _, _⟩ := h.open_
  go_enter Tryd.func62, Tryd.ntmps62
  go_wp2_with (go_at_call 64; refine (NZ_c v m.c.f hv.1 hv.2 _).mono ?_; rintro e w1 ⟨rfl, hb1⟩; have h1 := h.later hb1; have H1 := Lib.hid h1; obtain ⟨cap1, cv1, kc, kf, _, _⟩ := h1.open_; clear h1)
  go_returns
  exact ⟨rfl, (H1.out.setX hv).setF _ _ _ _ _ _⟩
set_option maxHeartbeats 1000000 in
set_option maxRecDepth 100000 in
theorem do_LDY {B : Nat} {w0 w : World} {b g : Nat} {m : Ms} (h : St B w0 b g m w) (v : Int) (hv : 0 ≤ v ∧ v < 256) :
    Calls Tryd.prog 62 #[.pointer (some ⟨b, 0, none⟩), .string ⟨#[76, 68, 89]⟩, .int .u8 v] w fun e w' => e = .returned (.int .u8 (doF [76, 68, 89] v m.c).1) ∧ St B w0 b g (m.do_ [76, 68, 89] v) w' := by
  have hA := h.cok
  obtain ⟨cap, cv, hc, hf, _, _⟩ := h.open_
  go_enter Tryd.func62, Tryd.ntmps62
  go_wp2_with (go_at_call 64; refine (NZ_c v m.c.f hv.1 hv.2 _).mono ?_; rintro e w1 ⟨rfl, hb1⟩; have h1 := h.later hb1; have H1 := Lib.hid h1; obtain ⟨cap1, cv1, kc, kf, _, _⟩ := h1.open_; clear h1)
  go_returns
  exact ⟨rfl, (H1.out.setY hv).setF _ _ _ _ _ _⟩
set_option maxHeartbeats 1000000 in
set_option maxRecDepth 100000 in
theorem do_ORA {B : Nat} {w0 w : World} {b g : Nat} {m : Ms} (h : St B w0 b g m w) (v : Int) (hv : 0 ≤ v ∧ v < 256) :
    Calls Tryd.prog 62 #[.pointer (some ⟨b, 0, none⟩), .string ⟨#[79, 82, 65]⟩, .int .u8 v] w fun e w' => e = .returned (.int .u8 (doF [79, 82, 65] v m.c).1) ∧ St B w0 b g (m.do_ [79, 82, 65] v) w' := by
  have hA := h.cok
  have hr := bits_u8_range .or (by simp) m.c.a v hA.1 hv
  obtain ⟨cap, cv, hc, hf, _, _⟩ := h.open_
  go_enter Tryd.func62, Tryd.ntmps62
  go_wp2_with (go_at_call 62; refine (do_LDA h _ hr).mono ?_; rintro e w1 ⟨rfl, h1⟩)
  go_returns
  exact ⟨rfl, h1⟩
set_option maxHeartbeats 1000000 in
set_option maxRecDepth 100000 in
theorem do_AND {B : Nat} {w0 w : World} {b g : Nat} {m : Ms} (h : St B w0 b g m w) (v : Int) (hv : 0 ≤ v ∧ v < 256) :
    Calls Tryd.prog 62 #[.pointer (some ⟨b, 0, none⟩), .string ⟨#[65, 78, 68]⟩, .int .u8 v] w fun e w' => e = .returned (.int .u8 (doF [65, 78, 68] v m.c).1) ∧ St B w0 b g (m.do_ [65, 78, 68] v) w' := by
  have hA := h.cok
  have hr := bits_u8_range .and (by simp) m.c.a v hA.1 hv
  obtain ⟨cap, cv, hc, hf, _, _⟩ := h.open_
  go_enter Tryd.func62, Tryd.ntmps62
  go_wp2_with (go_at_call 62; refine (do_LDA h _ hr).mono ?_; rintro e w1 ⟨rfl, h1⟩)
  go_returns
  exact ⟨rfl, h1⟩
set_option maxHeartbeats 1000000 in
set_option maxRecDepth 100000 in
theorem do_EOR {B : Nat} {w0 w : World} {b g : Nat} {m : Ms} (h : St B w0 b g m w) (v : Int) (hv : 0 ≤ v ∧ v < 256) :
    Calls Tryd.prog 62 #[.pointer (some ⟨b, 0, none⟩), .string ⟨#[69, 79, 82]⟩, .int .u8 v] w fun e w' => e = .returned (.int .u8 (doF [69, 79, 82] v m.c).1) ∧ St B w0 b g (m.do_ [69, 79, 82] v) w' := by
  have hA := h.cok
  have hr := bits_u8_range .xor (by simp) m.c.a v hA.1 hv
  obtain ⟨cap, cv, hc, hf, _, _⟩ := h.open_
  go_enter Tryd.func62, Tryd.ntmps62
  go_wp2_with (go_at_call 62; refine (do_LDA h _ hr).mono ?_; rintro e w1 ⟨rfl, h1⟩)
  go_returns
  exact ⟨rfl, h1⟩
set_option maxHeartbeats 1000000 in
set_option maxRecDepth 100000 in
theorem do_INC {B : Nat} {w0 w : World} {b g : Nat} {m : Ms} (h : St B w0 b g m w) (v : Int) (hv : 0 ≤ v ∧ v < 256) :
    Calls Tryd.prog 62 #[.pointer (some ⟨b, 0, none⟩), .string ⟨#[73, 78, 67]⟩, .int .u8 v] w fun e w' => e = .returned (.int .u8 (doF [73, 78, 67] v m.c).1) ∧ St B w0 b g (m.do_ [73, 78, 67] v) w' := by
  have hA := h.cok
  obtain ⟨cap, cv, hc, hf, _, _⟩ := h.open_
  go_enter Tryd.func62, Tryd.ntmps62
  go_wp2_with (go_at_call 64; refine (NZ_c ((v + 1) % 256) m.c.f (by omega) (by omega) _).mono ?_; rintro e w1 ⟨rfl, hb1⟩; have h1 := h.later hb1; have H1 := Lib.hid h1; obtain ⟨cap1, cv1, kc, kf, _, _⟩ := h1.open_; clear h1)
  go_returns
  exact ⟨rfl, H1.out.setF _ _ _ _ _ _⟩
set_option maxHeartbeats 1000000 in
set_option maxRecDepth 100000 in
theorem do_DEC {B : Nat} {w0 w : World} {b g : Nat} {m : Ms} (h : St B w0 b g m w) (v : Int) (hv : 0 ≤ v ∧ v < 256) :
    Calls Tryd.prog 62 #[.pointer (some ⟨b, 0, none⟩), .string ⟨#[68, 69, 67]⟩, .int .u8 v] w fun e w' => e = .returned (.int .u8 (doF [68, 69, 67] v m.c).1) ∧ St B w0 b g (m.do_ [68, 69, 67] v) w' := by
  have hA := h.cok
  obtain ⟨cap, cv, hc, hf, _, _⟩ := h.open_
  go_enter Tryd.func62, Tryd.ntmps62
  go_wp2_with (go_at_call 64; refine (NZ_c ((v - 1) % 256) m.c.f (by omega) (by omega) _).mono ?_; rintro e w1 ⟨rfl, hb1⟩; have h1 := h.later hb1; have H1 := Lib.hid h1; obtain ⟨cap1, cv1, kc, kf, _, _⟩ := h1.open_; clear h1)
  go_returns
  exact ⟨rfl, H1.out.setF _ _ _ _ _ _⟩
end Go.Proofs.YtemahcjglmhefaaDoor
