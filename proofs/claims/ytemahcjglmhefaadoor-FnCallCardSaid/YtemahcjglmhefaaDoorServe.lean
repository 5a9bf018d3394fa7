/- An interrupt; the faces Step and Serve. No condition. -/
import Derived.Test.YtemahcjglmhefaaDoorStep3
namespace Go.Proofs.YtemahcjglmhefaaDoor
open Go.RowKit
attribute [local irreducible] World.setCell

theorem St.seven {B : Nat} {w0 w : World} {b g : Nat} {m : Ms} (h : St B w0 b g m w) : w.cell? ⟨b, 4, none⟩ = some (.int .u16 m.c.pc) ∧ w.cell? ⟨b, 5, none⟩ = some (.bool m.c.f.n) ∧ w.cell? ⟨b, 6, none⟩ = some (.bool m.c.f.v) ∧ w.cell? ⟨b, 7, none⟩ = some (.bool m.c.f.d) ∧ w.cell? ⟨b, 8, none⟩ = some (.bool m.c.f.i) ∧ w.cell? ⟨b, 9, none⟩ = some (.bool m.c.f.z) ∧ w.cell? ⟨b, 10, none⟩ = some (.bool m.c.f.c) := by
  obtain ⟨cap, cv, hc, _⟩ := h.open_
  exact ⟨hc 4, hc 5, hc 6, hc 7, hc 8, hc 9, hc 10⟩
set_option maxHeartbeats 1000000 in
set_option maxRecDepth 100000 in
theorem serve_true {B : Nat} {w0 w : World} {b g : Nat} {m : Ms} (h : St B w0 b g m w) (hl : m.cy.length < 700000) :
    Calls Tryd.prog 28 #[.pointer (some ⟨b, 0, none⟩), .bool true] w fun e w' => e = .returned (.tuple #[]) ∧ St B w0 b g (serveF m true) w' := by
  have hA := h.cok
  have hpc : 0 ≤ m.c.pc ∧ m.c.pc < 65536 := by unfold Cp.ok at hA; omega
  have hp := pack_ok m.c.f false
  have u2 : 0 ≤ m.c.pc / 256 ∧ m.c.pc / 256 < 256 := by omega
  have u3 := u8_ok m.c.pc
  have u1 : m.c.pc % 256 = u8 m.c.pc := rfl
  have u4 : IntKind.u8.wrap m.c.pc = u8 m.c.pc := wrap_u8 _
  have u5 : IntKind.u8.wrap (m.c.pc / 256) = m.c.pc / 256 := (wrap_u8 _).trans (Int.emod_eq_of_lt u2.1 u2.2)
  have HS : Hid (serveF m true = vecF (((m.read m.c.pc).read m.c.pc).push [m.c.pc / 256, u8 m.c.pc, packF m.c.f false]) 65530 65531) := rfl
  obtain ⟨cap, cv, hc, hf, _, _⟩ := h.open_
  go_enter Tryd.func28, Tryd.ntmps28
  go_wp2_with fail
  refine (read_c h m.c.pc hpc.1 hpc.2 (by first | omega | (simp; omega))).mono ?_
  rintro e w1 ⟨rfl, s1⟩
  obtain ⟨cap1, cv1, s1c, s1f, _, _⟩ := s1.open_
  go_wp2_with fail
  refine (read_c s1 m.c.pc hpc.1 hpc.2 (by first | omega | (simp; omega))).mono ?_
  rintro e w2 ⟨rfl, s2⟩
  obtain ⟨cap2, cv2, s2c, s2f, _, _⟩ := s2.open_
  go_wp2_with fail
  go_region_held3 (fun w' => w'.cell? ⟨b, 4, none⟩ = some (.int .u16 m.c.pc) ∧ w'.cell? ⟨b, 5, none⟩ = some (.bool m.c.f.n) ∧ w'.cell? ⟨b, 6, none⟩ = some (.bool m.c.f.v) ∧ w'.cell? ⟨b, 7, none⟩ = some (.bool m.c.f.d) ∧ w'.cell? ⟨b, 8, none⟩ = some (.bool m.c.f.i) ∧ w'.cell? ⟨b, 9, none⟩ = some (.bool m.c.f.z) ∧ w'.cell? ⟨b, 10, none⟩ = some (.bool m.c.f.c)) (first | exact s2.drew.seven | exact s5.seven | exact (s5.later (Dn.al _ _)).seven | exact y6) (first | (go_at_call 49; refine (PackP_c m.c.f false _).mono ?_; rintro e w5 ⟨rfl, hb5⟩; have s5 := s2.drew.later hb5) | (go_at_call 48; refine (pushNew s5 [m.c.pc / 256, u8 m.c.pc, packF m.c.f false] (byt3 u2 u3 hp) (by first | omega | (simp; omega)) (by simp) _ _ rfl _ rfl).mono ?_; rintro e w6 ⟨rfl, s6⟩; have y6 := s6.seven; rw [push_look_pc, push_f] at y6))
  clear y6
  obtain ⟨cap6, cv6, s6c, s6f, _, _⟩ := s6.open_
  have hby := s6.byt
  have hlen : ((((m.read m.c.pc).read m.c.pc).push [m.c.pc / 256, u8 m.c.pc, packF m.c.f false])).cy.length = m.cy.length + 5 := by simp
  generalize (((m.read m.c.pc).read m.c.pc).push [m.c.pc / 256, u8 m.c.pc, packF m.c.f false]) = q at *
  go_wp2_with fail
  refine (readTwo_c s6 65530 65531 (by omega) (by omega) (by omega) (by omega) (by omega)).mono ?_
  rintro e w7 ⟨rfl, s7⟩
  obtain ⟨cap7, cv7, s7c, s7f, _, _⟩ := s7.open_
  have s8 := s7.vec hby
  have S8 := Lib.hid s8
  clear s8
  go_wp2
  go_returns
  rw [HS.out]
  exact ⟨rfl, S8.out⟩
set_option maxHeartbeats 1000000 in
set_option maxRecDepth 100000 in
theorem serve_false {B : Nat} {w0 w : World} {b g : Nat} {m : Ms} (h : St B w0 b g m w) (hl : m.cy.length < 700000) :
    Calls Tryd.prog 28 #[.pointer (some ⟨b, 0, none⟩), .bool false] w fun e w' => e = .returned (.tuple #[]) ∧ St B w0 b g (serveF m false) w' := by
  have hA := h.cok
  have hpc : 0 ≤ m.c.pc ∧ m.c.pc < 65536 := by unfold Cp.ok at hA; omega
  have hp := pack_ok m.c.f false
  have u2 : 0 ≤ m.c.pc / 256 ∧ m.c.pc / 256 < 256 := by omega
  have u3 := u8_ok m.c.pc
  have u1 : m.c.pc % 256 = u8 m.c.pc := rfl
  have u4 : IntKind.u8.wrap m.c.pc = u8 m.c.pc := wrap_u8 _
  have u5 : IntKind.u8.wrap (m.c.pc / 256) = m.c.pc / 256 := (wrap_u8 _).trans (Int.emod_eq_of_lt u2.1 u2.2)
  have HS : Hid (serveF m false = vecF (((m.read m.c.pc).read m.c.pc).push [m.c.pc / 256, u8 m.c.pc, packF m.c.f false]) 65534 65535) := rfl
  obtain ⟨cap, cv, hc, hf, _, _⟩ := h.open_
  go_enter Tryd.func28, Tryd.ntmps28
  go_wp2_with fail
  refine (read_c h m.c.pc hpc.1 hpc.2 (by first | omega | (simp; omega))).mono ?_
  rintro e w1 ⟨rfl, s1⟩
  obtain ⟨cap1, cv1, s1c, s1f, _, _⟩ := s1.open_
  go_wp2_with fail
  refine (read_c s1 m.c.pc hpc.1 hpc.2 (by first | omega | (simp; omega))).mono ?_
  rintro e w2 ⟨rfl, s2⟩
  obtain ⟨cap2, cv2, s2c, s2f, _, _⟩ := s2.open_
  go_wp2_with fail
  go_region_held3 (fun w' => w'.cell? ⟨b, 4, none⟩ = some (.int .u16 m.c.pc) ∧ w'.cell? ⟨b, 5, none⟩ = some (.bool m.c.f.n) ∧ w'.cell? ⟨b, 6, none⟩ = some (.bool m.c.f.v) ∧ w'.cell? ⟨b, 7, none⟩ = some (.bool m.c.f.d) ∧ w'.cell? ⟨b, 8, none⟩ = some (.bool m.c.f.i) ∧ w'.cell? ⟨b, 9, none⟩ = some (.bool m.c.f.z) ∧ w'.cell? ⟨b, 10, none⟩ = some (.bool m.c.f.c)) (first | exact s2.drew.seven | exact s5.seven | exact (s5.later (Dn.al _ _)).seven | exact y6) (first | (go_at_call 49; refine (PackP_c m.c.f false _).mono ?_; rintro e w5 ⟨rfl, hb5⟩; have s5 := s2.drew.later hb5) | (go_at_call 48; refine (pushNew s5 [m.c.pc / 256, u8 m.c.pc, packF m.c.f false] (byt3 u2 u3 hp) (by first | omega | (simp; omega)) (by simp) _ _ rfl _ rfl).mono ?_; rintro e w6 ⟨rfl, s6⟩; have y6 := s6.seven; rw [push_look_pc, push_f] at y6))
  clear y6
  obtain ⟨cap6, cv6, s6c, s6f, _, _⟩ := s6.open_
  have hby := s6.byt
  have hlen : ((((m.read m.c.pc).read m.c.pc).push [m.c.pc / 256, u8 m.c.pc, packF m.c.f false])).cy.length = m.cy.length + 5 := by simp
  generalize (((m.read m.c.pc).read m.c.pc).push [m.c.pc / 256, u8 m.c.pc, packF m.c.f false]) = q at *
  go_wp2_with fail
  refine (readTwo_c s6 65534 65535 (by omega) (by omega) (by omega) (by omega) (by omega)).mono ?_
  rintro e w7 ⟨rfl, s7⟩
  obtain ⟨cap7, cv7, s7c, s7f, _, _⟩ := s7.open_
  have s8 := s7.vec hby
  have S8 := Lib.hid s8
  clear s8
  go_wp2
  go_returns
  rw [HS.out]
  exact ⟨rfl, S8.out⟩
end Go.Proofs.YtemahcjglmhefaaDoor
