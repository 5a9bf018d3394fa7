/- The machine's method 'place'. No condition. -/
import Derived.Test.YtemahcjglmhefaaDoorImp2
import Derived.Test.YtemahcjglmhefaaDoorPure5
import Derived.Deep.RegionWith
namespace Go.Proofs.YtemahcjglmhefaaDoor
open Go.RowKit
attribute [local irreducible] World.setCell

@[simp] theorem read_len (m : Ms) (a : Int) : (m.read a).cy.length = m.cy.length + 1 := by simp [Ms.read]
@[simp] theorem write_len (m : Ms) (a v : Int) : (m.write a v).cy.length = m.cy.length + 1 := by simp [Ms.write]
@[simp] theorem read2_len (m : Ms) (a b : Int) : (m.read2 a b).cy.length = m.cy.length + 2 := by simp [Ms.read2]
@[simp] theorem push_len (m : Ms) (l : List Int) : (m.push l).cy.length = m.cy.length + l.length := Ms.push_cy m l
@[simp] theorem setPC_len (m : Ms) (v : Int) : (m.setPC v).cy.length = m.cy.length := rfl
@[simp] theorem setS_len (m : Ms) (v : Int) : (m.setS v).cy.length = m.cy.length := rfl
@[simp] theorem setF_len (m : Ms) (f : Fl) : (m.setF f).cy.length = m.cy.length := rfl
@[simp] theorem do_len (m : Ms) (l : List UInt8) (v : Int) : (m.do_ l v).cy.length = m.cy.length := rfl
@[go_sem] theorem read_cpu (m : Ms) (a : Int) : (m.read a).c = m.c := rfl
@[go_sem] theorem write_cpu (m : Ms) (a v : Int) : (m.write a v).c = m.c := rfl
@[go_sem] theorem read2_cpu (m : Ms) (a b : Int) : (m.read2 a b).c = m.c := rfl
@[go_sem] theorem read_look (m : Ms) (a b : Int) : (m.read a).look b = m.look b := rfl
@[go_sem] theorem read2_look (m : Ms) (a b c : Int) : (m.read2 a b).look c = m.look c := rfl
@[go_sem] theorem read_word (m : Ms) (a b c : Int) : (m.read a).word b c = m.word b c := rfl
@[go_sem] theorem read2_word (m : Ms) (a b c d : Int) : (m.read2 a b).word c d = m.word c d := rfl
@[simp] theorem imp_len (m : Ms) (l : List UInt8) : (m.imp l).cy.length = m.cy.length := rfl
set_option maxHeartbeats 1000000 in
set_option maxRecDepth 100000 in
theorem place_3 {B : Nat} {w0 w : World} {b g : Nat} {m : Ms} (h : St B w0 b g m w) (kind : Int) (hl : m.cy.length < 900000) :
    Calls Tryd.prog 65 #[.pointer (some ⟨b, 0, none⟩), .int .i64 3, .int .i64 kind] w fun e w' => e = .returned (.int .u16 (placeF 3 kind m).1) ∧ St B w0 b g (placeF 3 kind m).2 w' := by
  have hA := h.cok
  have p1 := wrap_u16 (m.c.pc + 1)
  have p2 := wrap_u16 (m.c.pc + 2)
  have hz := Ms.look_ok h.byt (u16 (m.c.pc + 1))
  obtain ⟨cap, cv, hc, hf, _, _⟩ := h.open_
  go_enter Tryd.func65, Tryd.ntmps65
  go_wp2_with fail
  refine (read_c h (u16 (m.c.pc + 1)) (u16_ok _).1 (u16_ok _).2 (by first | omega | (simp; omega))).mono ?_
  rintro e w1 ⟨rfl, s1⟩
  obtain ⟨cap1, cv1, s1c, s1f, _, _⟩ := s1.open_
  have S1 := Lib.hid s1
  go_wp2
  go_returns
  exact ⟨rfl, S1.out⟩
set_option maxHeartbeats 1000000 in
set_option maxRecDepth 100000 in
theorem place_4 {B : Nat} {w0 w : World} {b g : Nat} {m : Ms} (h : St B w0 b g m w) (kind : Int) (hl : m.cy.length < 900000) :
    Calls Tryd.prog 65 #[.pointer (some ⟨b, 0, none⟩), .int .i64 4, .int .i64 kind] w fun e w' => e = .returned (.int .u16 (placeF 4 kind m).1) ∧ St B w0 b g (placeF 4 kind m).2 w' := by
  have hA := h.cok
  have p1 := wrap_u16 (m.c.pc + 1)
  have p2 := wrap_u16 (m.c.pc + 2)
  have hz := Ms.look_ok h.byt (u16 (m.c.pc + 1))
  obtain ⟨cap, cv, hc, hf, _, _⟩ := h.open_
  go_enter Tryd.func65, Tryd.ntmps65
  go_wp2_with fail
  refine (read_c h (u16 (m.c.pc + 1)) (u16_ok _).1 (u16_ok _).2 (by first | omega | (simp; omega))).mono ?_
  rintro e w1 ⟨rfl, s1⟩
  obtain ⟨cap1, cv1, s1c, s1f, _, _⟩ := s1.open_
  go_wp2_with fail
  refine (read_c s1 (m.look (u16 (m.c.pc + 1))) hz.1 (by omega) (by first | omega | (simp; omega))).mono ?_
  rintro e w2 ⟨rfl, s2⟩
  obtain ⟨cap2, cv2, s2c, s2f, _, _⟩ := s2.open_
  have S2 := Lib.hid s2
  unfold Cp.ok at hA
  go_wp2
  go_returns
  exact ⟨rfl, S2.out⟩
set_option maxHeartbeats 1000000 in
set_option maxRecDepth 100000 in
theorem place_5 {B : Nat} {w0 w : World} {b g : Nat} {m : Ms} (h : St B w0 b g m w) (kind : Int) (hl : m.cy.length < 900000) :
    Calls Tryd.prog 65 #[.pointer (some ⟨b, 0, none⟩), .int .i64 5, .int .i64 kind] w fun e w' => e = .returned (.int .u16 (placeF 5 kind m).1) ∧ St B w0 b g (placeF 5 kind m).2 w' := by
  have hA := h.cok
  have p1 := wrap_u16 (m.c.pc + 1)
  have p2 := wrap_u16 (m.c.pc + 2)
  have hz := Ms.look_ok h.byt (u16 (m.c.pc + 1))
  obtain ⟨cap, cv, hc, hf, _, _⟩ := h.open_
  go_enter Tryd.func65, Tryd.ntmps65
  go_wp2_with fail
  refine (read_c h (u16 (m.c.pc + 1)) (u16_ok _).1 (u16_ok _).2 (by first | omega | (simp; omega))).mono ?_
  rintro e w1 ⟨rfl, s1⟩
  obtain ⟨cap1, cv1, s1c, s1f, _, _⟩ := s1.open_
  go_wp2_with fail
  refine (read_c s1 (m.look (u16 (m.c.pc + 1))) hz.1 (by omega) (by first | omega | (simp; omega))).mono ?_
  rintro e w2 ⟨rfl, s2⟩
  obtain ⟨cap2, cv2, s2c, s2f, _, _⟩ := s2.open_
  have S2 := Lib.hid s2
  unfold Cp.ok at hA
  go_wp2
  go_returns
  exact ⟨rfl, S2.out⟩
set_option maxHeartbeats 1000000 in
set_option maxRecDepth 100000 in
theorem place_10 {B : Nat} {w0 w : World} {b g : Nat} {m : Ms} (h : St B w0 b g m w) (kind : Int) (hl : m.cy.length < 900000) :
    Calls Tryd.prog 65 #[.pointer (some ⟨b, 0, none⟩), .int .i64 10, .int .i64 kind] w fun e w' => e = .returned (.int .u16 (placeF 10 kind m).1) ∧ St B w0 b g (placeF 10 kind m).2 w' := by
  have hA := h.cok
  have p1 := wrap_u16 (m.c.pc + 1)
  have p2 := wrap_u16 (m.c.pc + 2)
  have hz := Ms.look_ok h.byt (u16 (m.c.pc + 1))
  obtain ⟨cap, cv, hc, hf, _, _⟩ := h.open_
  go_enter Tryd.func65, Tryd.ntmps65
  go_wp2_with fail
  refine (read_c h (u16 (m.c.pc + 1)) (u16_ok _).1 (u16_ok _).2 (by first | omega | (simp; omega))).mono ?_
  rintro e w1 ⟨rfl, s1⟩
  obtain ⟨cap1, cv1, s1c, s1f, _, _⟩ := s1.open_
  go_wp2_with fail
  refine (read_c s1 (m.look (u16 (m.c.pc + 1))) hz.1 (by omega) (by first | omega | (simp; omega))).mono ?_
  rintro e w2 ⟨rfl, s2⟩
  obtain ⟨cap2, cv2, s2c, s2f, _, _⟩ := s2.open_
  unfold Cp.ok at hA
  have o1 := u8_ok ((m.look (u16 (m.c.pc + 1))) + m.c.x)
  have o2 := u8_ok ((m.look (u16 (m.c.pc + 1))) + m.c.x + 1)
  have q1 : IntKind.u8.wrap ((m.look (u16 (m.c.pc + 1))) + m.c.x) = (u8 ((m.look (u16 (m.c.pc + 1))) + m.c.x)) := wrap_u8 _
  have q2 : IntKind.u8.wrap ((u8 ((m.look (u16 (m.c.pc + 1))) + m.c.x)) + 1) = (u8 ((m.look (u16 (m.c.pc + 1))) + m.c.x + 1)) := by rw [wrap_u8]; unfold u8; omega
  have q3 : IntKind.u16.wrap (u8 ((m.look (u16 (m.c.pc + 1))) + m.c.x)) = (u8 ((m.look (u16 (m.c.pc + 1))) + m.c.x)) := (wrap_u16 _).trans (Int.emod_eq_of_lt o1.1 (by omega))
  have q4 : IntKind.u16.wrap (u8 ((m.look (u16 (m.c.pc + 1))) + m.c.x + 1)) = (u8 ((m.look (u16 (m.c.pc + 1))) + m.c.x + 1)) := (wrap_u16 _).trans (Int.emod_eq_of_lt o2.1 (by omega))
  go_wp2_with fail
  go_region_with (go_at_call 50; refine (readTwo_c s2.drew (u8 ((m.look (u16 (m.c.pc + 1))) + m.c.x)) (u8 ((m.look (u16 (m.c.pc + 1))) + m.c.x + 1)) o1.1 (by omega) o2.1 (by omega) (by first | omega | (simp; omega))).mono ?_; rintro e w3 ⟨rfl, s3⟩; have S3 := Lib.hid s3; clear s3)
  all_goals go_wp2
  all_goals go_returns
  all_goals exact ⟨rfl, S3.out⟩
end Go.Proofs.YtemahcjglmhefaaDoor
