/- The machine's method 'do' at any name; a register by its letter; operations without an operand. No condition. -/
import Derived.Test.YtemahcjglmhefaaDoorDo2
import Derived.Test.YtemahcjglmhefaaDoorPure4
namespace Go.Proofs.YtemahcjglmhefaaDoor
open Go.RowKit
attribute [local irreducible] World.setCell

theorem do_c {B : Nat} {w0 w : World} {b g : Nat} {m : Ms} (h : St B w0 b g m w) (l : List UInt8) (v : Int) (hv : 0 ≤ v ∧ v < 256) :
    Calls Tryd.prog 62 #[.pointer (some ⟨b, 0, none⟩), .string ⟨l.toArray⟩, .int .u8 v] w fun e w' => e = .returned (.int .u8 (doF l v m.c).1) ∧ St B w0 b g (m.do_ l v) w' := by
  by_cases n0 : l = [76, 68, 65]
  · subst n0; exact do_LDA h v hv
  by_cases n1 : l = [76, 68, 88]
  · subst n1; exact do_LDX h v hv
  by_cases n2 : l = [76, 68, 89]
  · subst n2; exact do_LDY h v hv
  by_cases n3 : l = [79, 82, 65]
  · subst n3; exact do_ORA h v hv
  by_cases n4 : l = [65, 78, 68]
  · subst n4; exact do_AND h v hv
  by_cases n5 : l = [69, 79, 82]
  · subst n5; exact do_EOR h v hv
  by_cases n6 : l = [65, 68, 67]
  · subst n6; exact do_ADC h v hv
  by_cases n7 : l = [83, 66, 67]
  · subst n7; exact do_SBC h v hv
  by_cases n8 : l = [67, 77, 80]
  · subst n8; exact do_CMP h v hv
  by_cases n9 : l = [67, 80, 88]
  · subst n9; exact do_CPX h v hv
  by_cases n10 : l = [67, 80, 89]
  · subst n10; exact do_CPY h v hv
  by_cases n11 : l = [66, 73, 84]
  · subst n11; exact do_BIT h v hv
  by_cases n12 : l = [65, 83, 76]
  · subst n12; exact do_ASL h v hv
  by_cases n13 : l = [76, 83, 82]
  · subst n13; exact do_LSR h v hv
  by_cases n14 : l = [82, 79, 76]
  · subst n14; exact do_ROL h v hv
  by_cases n15 : l = [82, 79, 82]
  · subst n15; exact do_ROR h v hv
  by_cases n16 : l = [73, 78, 67]
  · subst n16; exact do_INC h v hv
  by_cases n17 : l = [68, 69, 67]
  · subst n17; exact do_DEC h v hv
  have e1 : doF l v m.c = (v, m.c) := by simp only [doF, n0, n1, n2, n3, n4, n5, n6, n7, n8, n9, n10, n11, n12, n13, n14, n15, n16, n17, if_false]
  have e2 : m.do_ l v = m := by simp only [Ms.do_, e1]
  rw [e1, e2]
  refine do_other h l v hv ?_
  simp only [List.mem_cons, List.not_mem_nil, or_false, forall_eq_or_imp, forall_eq, beq_eq_false_iff_ne, ne_eq]
  exact ⟨n0, n1, n2, n3, n4, n5, n6, n7, n8, n9, n10, n11, n12, n13, n14, n15, n16, n17⟩
theorem register_A (b : Nat) (w : World) : Calls Tryd.prog 63 #[.pointer (some ⟨b, 0, none⟩), .int .u8 65] w fun e w' => e = .returned (.pointer (some ⟨b, 0, none⟩)) ∧ w' = w := by
  go_enter Tryd.func63, Tryd.ntmps63
  go_wp2
  go_returns
  exact ⟨rfl, rfl⟩
theorem register_X (b : Nat) (w : World) : Calls Tryd.prog 63 #[.pointer (some ⟨b, 0, none⟩), .int .u8 88] w fun e w' => e = .returned (.pointer (some ⟨b, 1, none⟩)) ∧ w' = w := by
  go_enter Tryd.func63, Tryd.ntmps63
  go_wp2
  go_returns
  exact ⟨rfl, rfl⟩
theorem register_Y (b : Nat) (w : World) : Calls Tryd.prog 63 #[.pointer (some ⟨b, 0, none⟩), .int .u8 89] w fun e w' => e = .returned (.pointer (some ⟨b, 2, none⟩)) ∧ w' = w := by
  go_enter Tryd.func63, Tryd.ntmps63
  go_wp2
  go_returns
  exact ⟨rfl, rfl⟩
theorem register_S (b : Nat) (w : World) : Calls Tryd.prog 63 #[.pointer (some ⟨b, 0, none⟩), .int .u8 83] w fun e w' => e = .returned (.pointer (some ⟨b, 3, none⟩)) ∧ w' = w := by
  go_enter Tryd.func63, Tryd.ntmps63
  go_wp2
  go_returns
  exact ⟨rfl, rfl⟩
set_option maxHeartbeats 1000000 in
set_option maxRecDepth 100000 in
theorem imp_ASL {B : Nat} {w0 w : World} {b g : Nat} {m : Ms} (h : St B w0 b g m w) :
    Calls Tryd.prog 41 #[.pointer (some ⟨b, 0, none⟩), .string ⟨#[65, 83, 76]⟩] w fun e w' => e = .returned (.tuple #[]) ∧ St B w0 b g (m.imp [65, 83, 76]) w' := by
  have hA := h.cok
  obtain ⟨cap, cv, hc, hf, _, _⟩ := h.open_
  go_enter Tryd.func41, Tryd.ntmps41
  go_wp2_with (go_at_call 62; refine (do_ASL h m.c.a hA.1).mono ?_; rintro e w1 ⟨rfl, h1⟩; have H1 := Lib.hid h1; obtain ⟨cap1, cv1, kc, kf, _, _⟩ := h1.open_; clear h1)
  go_returns
  exact ⟨rfl, H1.out.setA (by have := doF_ok [65, 83, 76] m.c.a m.c hA.1 hA; exact this)⟩
set_option maxHeartbeats 1000000 in
set_option maxRecDepth 100000 in
theorem imp_LSR {B : Nat} {w0 w : World} {b g : Nat} {m : Ms} (h : St B w0 b g m w) :
    Calls Tryd.prog 41 #[.pointer (some ⟨b, 0, none⟩), .string ⟨#[76, 83, 82]⟩] w fun e w' => e = .returned (.tuple #[]) ∧ St B w0 b g (m.imp [76, 83, 82]) w' := by
  have hA := h.cok
  obtain ⟨cap, cv, hc, hf, _, _⟩ := h.open_
  go_enter Tryd.func41, Tryd.ntmps41
  go_wp2_with (go_at_call 62; refine (do_LSR h m.c.a hA.1).mono ?_; rintro e w1 ⟨rfl, h1⟩; have H1 := Lib.hid h1; obtain ⟨cap1, cv1, kc, kf, _, _⟩ := h1.open_; clear h1)
  go_returns
  exact ⟨rfl, H1.out.setA (by have := doF_ok [76, 83, 82] m.c.a m.c hA.1 hA; exact this)⟩
set_option maxHeartbeats 1000000 in
set_option maxRecDepth 100000 in
theorem imp_ROL {B : Nat} {w0 w : World} {b g : Nat} {m : Ms} (h : St B w0 b g m w) :
    Calls Tryd.prog 41 #[.pointer (some ⟨b, 0, none⟩), .string ⟨#[82, 79, 76]⟩] w fun e w' => e = .returned (.tuple #[]) ∧ St B w0 b g (m.imp [82, 79, 76]) w' := by
  have hA := h.cok
  obtain ⟨cap, cv, hc, hf, _, _⟩ := h.open_
  go_enter Tryd.func41, Tryd.ntmps41
  go_wp2_with (go_at_call 62; refine (do_ROL h m.c.a hA.1).mono ?_; rintro e w1 ⟨rfl, h1⟩; have H1 := Lib.hid h1; obtain ⟨cap1, cv1, kc, kf, _, _⟩ := h1.open_; clear h1)
  go_returns
  exact ⟨rfl, H1.out.setA (by have := doF_ok [82, 79, 76] m.c.a m.c hA.1 hA; exact this)⟩
set_option maxHeartbeats 1000000 in
set_option maxRecDepth 100000 in
theorem imp_ROR {B : Nat} {w0 w : World} {b g : Nat} {m : Ms} (h : St B w0 b g m w) :
    Calls Tryd.prog 41 #[.pointer (some ⟨b, 0, none⟩), .string ⟨#[82, 79, 82]⟩] w fun e w' => e = .returned (.tuple #[]) ∧ St B w0 b g (m.imp [82, 79, 82]) w' := by
  have hA := h.cok
  obtain ⟨cap, cv, hc, hf, _, _⟩ := h.open_
  go_enter Tryd.func41, Tryd.ntmps41
  go_wp2_with (go_at_call 62; refine (do_ROR h m.c.a hA.1).mono ?_; rintro e w1 ⟨rfl, h1⟩; have H1 := Lib.hid h1; obtain ⟨cap1, cv1, kc, kf, _, _⟩ := h1.open_; clear h1)
  go_returns
  exact ⟨rfl, H1.out.setA (by have := doF_ok [82, 79, 82] m.c.a m.c hA.1 hA; exact this)⟩
end Go.Proofs.YtemahcjglmhefaaDoor
