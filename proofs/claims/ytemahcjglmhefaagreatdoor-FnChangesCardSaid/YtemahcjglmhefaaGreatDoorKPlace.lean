/- The machine's method 'place'. No condition. The machine's method 'place', modes with a base. No condition. The machine's methods: a branch, the ways of PC, the stack. No condition. -/
import Derived.Test.YtemahcjglmhefaaGreatDoorKImp
import Derived.Test.YtemahcjglmhefaaGreatDoorKOp
import Derived.Deep.RegionWith
namespace Go.Proofs.YtemahcjglmhefaaGreatDoor
set_option linter.unusedVariables false
set_option linter.unusedSimpArgs false
open Go.RowKit
attribute [local irreducible] World.setCell

@[simp] theorem read_len (m : Ms) (a : Int) : (m.read a).cy.length = m.cy.length + 1 := by simp [Ms.read]
@[simp] theorem write_len (m : Ms) (a v : Int) : (m.write a v).cy.length = m.cy.length + 1 := by simp [Ms.write]
@[simp] theorem read2_len (m : Ms) (a b : Int) : (m.read2 a b).cy.length = m.cy.length + 2 := by simp [Ms.read2]
@[simp] theorem push_len (m : Ms) (l : List Int) : (m.push l).cy.length = m.cy.length + l.length := Ms.push_cy m l
@[simp] theorem setPC_len (m : Ms) (v : Int) : (m.setPC v).cy.length = m.cy.length := rfl
@[simp] theorem setS_len (m : Ms) (v : Int) : (m.setS v).cy.length = m.cy.length := rfl
@[simp] theorem setF_len (m : Ms) (f : Fl) : (m.setF f).cy.length = m.cy.length := rfl
@[simp] theorem do_len (m : Ms) (l : List UInt8) (v : Int) : (m.do_ l v).cy.length = m.cy.length := rfl
@[go_sem] theorem read_cpu (m : Ms) (a : Int) : (m.read a).c = m.c := rfl
@[go_sem] theorem write_cpu (m : Ms) (a v : Int) : (m.write a v).c = m.c := rfl
@[go_sem] theorem read2_cpu (m : Ms) (a b : Int) : (m.read2 a b).c = m.c := rfl
@[go_sem] theorem read_look (m : Ms) (a b : Int) : (m.read a).look b = m.look b := rfl
@[go_sem] theorem read2_look (m : Ms) (a b c : Int) : (m.read2 a b).look c = m.look c := rfl
@[go_sem] theorem read_word (m : Ms) (a b c : Int) : (m.read a).word b c = m.word b c := rfl
@[go_sem] theorem read2_word (m : Ms) (a b c d : Int) : (m.read2 a b).word c d = m.word c d := rfl
@[simp] theorem imp_len (m : Ms) (l : List UInt8) : (m.imp l).cy.length = m.cy.length := rfl
set_option maxHeartbeats 1000000 in
set_option maxRecDepth 100000 in
theorem place_3 {B : Nat} {w0 w : World} {b g : Nat} {m : Ms} (h : St B w0 b g m w) (kind : Int) (hl : m.cy.length < 900000) :
    Calls Tryz.prog 81 #[.pointer (some ⟨b, 0, none⟩), .int .i64 3, .int .i64 kind] w fun e w' => e = .returned (.int .u16 (placeF 3 kind m).1) ∧ St B w0 b g (placeF 3 kind m).2 w' := by
  have hA := h.cok
  have p1 := wrap_u16 (m.c.pc + 1)
  have p2 := wrap_u16 (m.c.pc + 2)
  have hz := Ms.look_ok h.byt (u16 (m.c.pc + 1))
  obtain ⟨cap, cv, hc, hf, _, _⟩ := h.open_
  go_enter Tryz.func81, Tryz.ntmps81
  go_wp2_with fail
  refine (read_c h (u16 (m.c.pc + 1)) (u16_ok _).1 (u16_ok _).2 (by first | omega | (simp; omega))).mono ?_
  rintro e w1 ⟨rfl, s1⟩
  obtain ⟨cap1, cv1, s1c, s1f, _, _⟩ := s1.open_
  have S1 := Lib.hid s1
  go_wp2
  go_returns
  exact ⟨rfl, S1.out⟩
set_option maxHeartbeats 1000000 in
set_option maxRecDepth 100000 in
theorem place_4 {B : Nat} {w0 w : World} {b g : Nat} {m : Ms} (h : St B w0 b g m w) (kind : Int) (hl : m.cy.length < 900000) :
    Calls Tryz.prog 81 #[.pointer (some ⟨b, 0, none⟩), .int .i64 4, .int .i64 kind] w fun e w' => e = .returned (.int .u16 (placeF 4 kind m).1) ∧ St B w0 b g (placeF 4 kind m).2 w' := by
  have hA := h.cok
  have p1 := wrap_u16 (m.c.pc + 1)
  have p2 := wrap_u16 (m.c.pc + 2)
  have hz := Ms.look_ok h.byt (u16 (m.c.pc + 1))
  obtain ⟨cap, cv, hc, hf, _, _⟩ := h.open_
  go_enter Tryz.func81, Tryz.ntmps81
  go_wp2_with fail
  refine (read_c h (u16 (m.c.pc + 1)) (u16_ok _).1 (u16_ok _).2 (by first | omega | (simp; omega))).mono ?_
  rintro e w1 ⟨rfl, s1⟩
  obtain ⟨cap1, cv1, s1c, s1f, _, _⟩ := s1.open_
  go_wp2_with fail
  refine (read_c s1 (m.look (u16 (m.c.pc + 1))) hz.1 (by omega) (by first | omega | (simp; omega))).mono ?_
  rintro e w2 ⟨rfl, s2⟩
  obtain ⟨cap2, cv2, s2c, s2f, _, _⟩ := s2.open_
  have S2 := Lib.hid s2
  unfold Cp.ok at hA
  go_wp2
  go_returns
  exact ⟨rfl, S2.out⟩
set_option maxHeartbeats 1000000 in
set_option maxRecDepth 100000 in
theorem place_5 {B : Nat} {w0 w : World} {b g : Nat} {m : Ms} (h : St B w0 b g m w) (kind : Int) (hl : m.cy.length < 900000) :
    Calls Tryz.prog 81 #[.pointer (some ⟨b, 0, none⟩), .int .i64 5, .int .i64 kind] w fun e w' => e = .returned (.int .u16 (placeF 5 kind m).1) ∧ St B w0 b g (placeF 5 kind m).2 w' := by
  have hA := h.cok
  have p1 := wrap_u16 (m.c.pc + 1)
  have p2 := wrap_u16 (m.c.pc + 2)
  have hz := Ms.look_ok h.byt (u16 (m.c.pc + 1))
  obtain ⟨cap, cv, hc, hf, _, _⟩ := h.open_
  go_enter Tryz.func81, Tryz.ntmps81
  go_wp2_with fail
  refine (read_c h (u16 (m.c.pc + 1)) (u16_ok _).1 (u16_ok _).2 (by first | omega | (simp; omega))).mono ?_
  rintro e w1 ⟨rfl, s1⟩
  obtain ⟨cap1, cv1, s1c, s1f, _, _⟩ := s1.open_
  go_wp2_with fail
  refine (read_c s1 (m.look (u16 (m.c.pc + 1))) hz.1 (by omega) (by first | omega | (simp; omega))).mono ?_
  rintro e w2 ⟨rfl, s2⟩
  obtain ⟨cap2, cv2, s2c, s2f, _, _⟩ := s2.open_
  have S2 := Lib.hid s2
  unfold Cp.ok at hA
  go_wp2
  go_returns
  exact ⟨rfl, S2.out⟩
set_option maxHeartbeats 1000000 in
set_option maxRecDepth 100000 in
theorem place_10 {B : Nat} {w0 w : World} {b g : Nat} {m : Ms} (h : St B w0 b g m w) (kind : Int) (hl : m.cy.length < 900000) :
    Calls Tryz.prog 81 #[.pointer (some ⟨b, 0, none⟩), .int .i64 10, .int .i64 kind] w fun e w' => e = .returned (.int .u16 (placeF 10 kind m).1) ∧ St B w0 b g (placeF 10 kind m).2 w' := by
  have hA := h.cok
  have p1 := wrap_u16 (m.c.pc + 1)
  have p2 := wrap_u16 (m.c.pc + 2)
  have hz := Ms.look_ok h.byt (u16 (m.c.pc + 1))
  obtain ⟨cap, cv, hc, hf, _, _⟩ := h.open_
  go_enter Tryz.func81, Tryz.ntmps81
  go_wp2_with fail
  refine (read_c h (u16 (m.c.pc + 1)) (u16_ok _).1 (u16_ok _).2 (by first | omega | (simp; omega))).mono ?_
  rintro e w1 ⟨rfl, s1⟩
  obtain ⟨cap1, cv1, s1c, s1f, _, _⟩ := s1.open_
  go_wp2_with fail
  refine (read_c s1 (m.look (u16 (m.c.pc + 1))) hz.1 (by omega) (by first | omega | (simp; omega))).mono ?_
  rintro e w2 ⟨rfl, s2⟩
  obtain ⟨cap2, cv2, s2c, s2f, _, _⟩ := s2.open_
  unfold Cp.ok at hA
  have o1 := u8_ok ((m.look (u16 (m.c.pc + 1))) + m.c.x)
  have o2 := u8_ok ((m.look (u16 (m.c.pc + 1))) + m.c.x + 1)
  have q1 : IntKind.u8.wrap ((m.look (u16 (m.c.pc + 1))) + m.c.x) = (u8 ((m.look (u16 (m.c.pc + 1))) + m.c.x)) := wrap_u8 _
  have q2 : IntKind.u8.wrap ((u8 ((m.look (u16 (m.c.pc + 1))) + m.c.x)) + 1) = (u8 ((m.look (u16 (m.c.pc + 1))) + m.c.x + 1)) := by rw [wrap_u8]; unfold u8; omega
  have q3 : IntKind.u16.wrap (u8 ((m.look (u16 (m.c.pc + 1))) + m.c.x)) = (u8 ((m.look (u16 (m.c.pc + 1))) + m.c.x)) := (wrap_u16 _).trans (Int.emod_eq_of_lt o1.1 (by omega))
  have q4 : IntKind.u16.wrap (u8 ((m.look (u16 (m.c.pc + 1))) + m.c.x + 1)) = (u8 ((m.look (u16 (m.c.pc + 1))) + m.c.x + 1)) := (wrap_u16 _).trans (Int.emod_eq_of_lt o2.1 (by omega))
  go_wp2_with fail
  go_region_with (go_at_call 47; refine (readTwo_c s2.drew (u8 ((m.look (u16 (m.c.pc + 1))) + m.c.x)) (u8 ((m.look (u16 (m.c.pc + 1))) + m.c.x + 1)) o1.1 (by omega) o2.1 (by omega) (by first | omega | (simp; omega))).mono ?_; rintro e w3 ⟨rfl, s3⟩; have S3 := Lib.hid s3; clear s3)
  all_goals go_wp2
  all_goals go_returns
  all_goals exact ⟨rfl, S3.out⟩
end Go.Proofs.YtemahcjglmhefaaGreatDoor
namespace Go.Proofs.YtemahcjglmhefaaGreatDoor
set_option linter.unusedVariables false
set_option linter.unusedSimpArgs false
open Go.RowKit
attribute [local irreducible] World.setCell

set_option maxHeartbeats 1000000 in
set_option maxRecDepth 100000 in
theorem place_6 {B : Nat} {w0 w : World} {b g : Nat} {m : Ms} (h : St B w0 b g m w) (kind : Int) (hl : m.cy.length < 900000) :
    Calls Tryz.prog 81 #[.pointer (some ⟨b, 0, none⟩), .int .i64 6, .int .i64 kind] w fun e w' => e = .returned (.int .u16 (placeF 6 kind m).1) ∧ St B w0 b g (placeF 6 kind m).2 w' := by
  have hA := h.cok
  have p1 := wrap_u16 (m.c.pc + 1)
  have p2 := wrap_u16 (m.c.pc + 2)
  have hz := Ms.look_ok h.byt (u16 (m.c.pc + 1))
  obtain ⟨cap, cv, hc, hf, _, _⟩ := h.open_
  have hz2 := Ms.look_ok h.byt (u16 (m.c.pc + 2))
  have hw : m.look (u16 (m.c.pc + 2)) * 256 + m.look (u16 (m.c.pc + 1)) = (m.word (u16 (m.c.pc + 1)) (u16 (m.c.pc + 2))) := rfl
  go_enter Tryz.func81, Tryz.ntmps81
  go_wp2_with fail
  refine (read_c h (u16 (m.c.pc + 1)) (u16_ok _).1 (u16_ok _).2 (by first | omega | (simp; omega))).mono ?_
  rintro e w1 ⟨rfl, s1⟩
  obtain ⟨cap1, cv1, s1c, s1f, _, _⟩ := s1.open_
  go_wp2_with fail
  refine (read_c s1 (u16 (m.c.pc + 2)) (u16_ok _).1 (u16_ok _).2 (by first | omega | (simp; omega))).mono ?_
  rintro e w2 ⟨rfl, s2⟩
  obtain ⟨cap2, cv2, s2c, s2f, _, _⟩ := s2.open_
  go_wp2_with fail
  refine (wordOf_c (m.look (u16 (m.c.pc + 1))) (m.look (u16 (m.c.pc + 2))) hz.1 hz.2 hz2.1 hz2.2 _).mono ?_
  rintro e w3 ⟨rfl, rfl⟩
  have S2 := Lib.hid s2
  go_wp2
  go_returns
  exact ⟨rfl, S2.out⟩
set_option maxHeartbeats 1000000 in
set_option maxRecDepth 100000 in
theorem place_7 {B : Nat} {w0 w : World} {b g : Nat} {m : Ms} (h : St B w0 b g m w) (kind : Int) (hl : m.cy.length < 900000) :
    Calls Tryz.prog 81 #[.pointer (some ⟨b, 0, none⟩), .int .i64 7, .int .i64 kind] w fun e w' => e = .returned (.int .u16 (placeF 7 kind m).1) ∧ St B w0 b g (placeF 7 kind m).2 w' := by
  have hA := h.cok
  have p1 := wrap_u16 (m.c.pc + 1)
  have p2 := wrap_u16 (m.c.pc + 2)
  have hz := Ms.look_ok h.byt (u16 (m.c.pc + 1))
  obtain ⟨cap, cv, hc, hf, _, _⟩ := h.open_
  have hz2 := Ms.look_ok h.byt (u16 (m.c.pc + 2))
  have hw : m.look (u16 (m.c.pc + 2)) * 256 + m.look (u16 (m.c.pc + 1)) = (m.word (u16 (m.c.pc + 1)) (u16 (m.c.pc + 2))) := rfl
  have ob := word_ok h.byt (u16 (m.c.pc + 1)) (u16 (m.c.pc + 2))
  have q3 := wrap_u16 ((m.word (u16 (m.c.pc + 1)) (u16 (m.c.pc + 2))) + m.c.x)
  have o3 := u16_ok ((m.word (u16 (m.c.pc + 1)) (u16 (m.c.pc + 2))) + m.c.x)
  have q4 := page_eq (m.word (u16 (m.c.pc + 1)) (u16 (m.c.pc + 2))) (u16 ((m.word (u16 (m.c.pc + 1)) (u16 (m.c.pc + 2))) + m.c.x)) ob.1 ob.2 o3.1 o3.2
  have o4 := page_ok (m.word (u16 (m.c.pc + 1)) (u16 (m.c.pc + 2))) (u16 ((m.word (u16 (m.c.pc + 1)) (u16 (m.c.pc + 2))) + m.c.x)) ob.1 ob.2
  have HY : Hid (kind ≠ 2 ∨ (pageOf (m.word (u16 (m.c.pc + 1)) (u16 (m.c.pc + 2))) (u16 ((m.word (u16 (m.c.pc + 1)) (u16 (m.c.pc + 2))) + m.c.x))) ≠ (u16 ((m.word (u16 (m.c.pc + 1)) (u16 (m.c.pc + 2))) + m.c.x)) → placeF 7 kind m = ((u16 ((m.word (u16 (m.c.pc + 1)) (u16 (m.c.pc + 2))) + m.c.x)), (m.read2 (u16 (m.c.pc + 1)) (u16 (m.c.pc + 2))).read (pageOf (m.word (u16 (m.c.pc + 1)) (u16 (m.c.pc + 2))) (u16 ((m.word (u16 (m.c.pc + 1)) (u16 (m.c.pc + 2))) + m.c.x))))) := fun hk => if_pos hk
  have HN : Hid (¬ (kind ≠ 2 ∨ (pageOf (m.word (u16 (m.c.pc + 1)) (u16 (m.c.pc + 2))) (u16 ((m.word (u16 (m.c.pc + 1)) (u16 (m.c.pc + 2))) + m.c.x))) ≠ (u16 ((m.word (u16 (m.c.pc + 1)) (u16 (m.c.pc + 2))) + m.c.x))) → placeF 7 kind m = ((u16 ((m.word (u16 (m.c.pc + 1)) (u16 (m.c.pc + 2))) + m.c.x)), (m.read2 (u16 (m.c.pc + 1)) (u16 (m.c.pc + 2))))) := fun hk => if_neg hk
  unfold Cp.ok at hA
  by_cases k2 : kind = 2
  · subst k2
    by_cases kp : (pageOf (m.word (u16 (m.c.pc + 1)) (u16 (m.c.pc + 2))) (u16 ((m.word (u16 (m.c.pc + 1)) (u16 (m.c.pc + 2))) + m.c.x))) = (u16 ((m.word (u16 (m.c.pc + 1)) (u16 (m.c.pc + 2))) + m.c.x))
    · have t2 : ((pageOf (m.word (u16 (m.c.pc + 1)) (u16 (m.c.pc + 2))) (u16 ((m.word (u16 (m.c.pc + 1)) (u16 (m.c.pc + 2))) + m.c.x))) == (u16 ((m.word (u16 (m.c.pc + 1)) (u16 (m.c.pc + 2))) + m.c.x))) = true := by simpa using kp
      have HP := Lib.hid (HN.out (by simp [kp]))
      clear HY HN kp
      go_enter Tryz.func81, Tryz.ntmps81
      go_wp2_with fail
      refine (read_c h (u16 (m.c.pc + 1)) (u16_ok _).1 (u16_ok _).2 (by first | omega | (simp; omega))).mono ?_
      rintro e w1 ⟨rfl, s1⟩
      obtain ⟨cap1, cv1, s1c, s1f, _, _⟩ := s1.open_
      go_wp2_with fail
      refine (read_c s1 (u16 (m.c.pc + 2)) (u16_ok _).1 (u16_ok _).2 (by first | omega | (simp; omega))).mono ?_
      rintro e w2 ⟨rfl, s2⟩
      obtain ⟨cap2, cv2, s2c, s2f, _, _⟩ := s2.open_
      go_wp2_with fail
      refine (wordOf_c (m.look (u16 (m.c.pc + 1))) (m.look (u16 (m.c.pc + 2))) hz.1 hz.2 hz2.1 hz2.2 _).mono ?_
      rintro e w3 ⟨rfl, rfl⟩
      have SL := Lib.hid s2
      go_wp2
      go_returns
      rw [HP.out]
      exact ⟨rfl, SL.out⟩
    · have t2 : ((pageOf (m.word (u16 (m.c.pc + 1)) (u16 (m.c.pc + 2))) (u16 ((m.word (u16 (m.c.pc + 1)) (u16 (m.c.pc + 2))) + m.c.x))) == (u16 ((m.word (u16 (m.c.pc + 1)) (u16 (m.c.pc + 2))) + m.c.x))) = false := by simpa using kp
      have HP := Lib.hid (HY.out (Or.inr kp))
      clear HY HN kp
      go_enter Tryz.func81, Tryz.ntmps81
      go_wp2_with fail
      refine (read_c h (u16 (m.c.pc + 1)) (u16_ok _).1 (u16_ok _).2 (by first | omega | (simp; omega))).mono ?_
      rintro e w1 ⟨rfl, s1⟩
      obtain ⟨cap1, cv1, s1c, s1f, _, _⟩ := s1.open_
      go_wp2_with fail
      refine (read_c s1 (u16 (m.c.pc + 2)) (u16_ok _).1 (u16_ok _).2 (by first | omega | (simp; omega))).mono ?_
      rintro e w2 ⟨rfl, s2⟩
      obtain ⟨cap2, cv2, s2c, s2f, _, _⟩ := s2.open_
      go_wp2_with fail
      refine (wordOf_c (m.look (u16 (m.c.pc + 1))) (m.look (u16 (m.c.pc + 2))) hz.1 hz.2 hz2.1 hz2.2 _).mono ?_
      rintro e w3 ⟨rfl, rfl⟩
      go_wp2_with fail
      refine (read_c s2 (pageOf (m.word (u16 (m.c.pc + 1)) (u16 (m.c.pc + 2))) (u16 ((m.word (u16 (m.c.pc + 1)) (u16 (m.c.pc + 2))) + m.c.x))) o4.1 o4.2 (by first | omega | (simp; omega))).mono ?_
      rintro e w9 ⟨rfl, s9⟩
      have S9 := Lib.hid s9
      clear s9
      go_wp2
      go_returns
      rw [HP.out]
      exact ⟨rfl, S9.out⟩
  · have t1 : (kind == 2) = false := by simpa using k2
    have HP := Lib.hid (HY.out (Or.inl k2))
    clear HY HN
    go_enter Tryz.func81, Tryz.ntmps81
    go_wp2_with fail
    refine (read_c h (u16 (m.c.pc + 1)) (u16_ok _).1 (u16_ok _).2 (by first | omega | (simp; omega))).mono ?_
    rintro e w1 ⟨rfl, s1⟩
    obtain ⟨cap1, cv1, s1c, s1f, _, _⟩ := s1.open_
    go_wp2_with fail
    refine (read_c s1 (u16 (m.c.pc + 2)) (u16_ok _).1 (u16_ok _).2 (by first | omega | (simp; omega))).mono ?_
    rintro e w2 ⟨rfl, s2⟩
    obtain ⟨cap2, cv2, s2c, s2f, _, _⟩ := s2.open_
    go_wp2_with fail
    refine (wordOf_c (m.look (u16 (m.c.pc + 1))) (m.look (u16 (m.c.pc + 2))) hz.1 hz.2 hz2.1 hz2.2 _).mono ?_
    rintro e w3 ⟨rfl, rfl⟩
    go_wp2_with fail
    refine (read_c s2 (pageOf (m.word (u16 (m.c.pc + 1)) (u16 (m.c.pc + 2))) (u16 ((m.word (u16 (m.c.pc + 1)) (u16 (m.c.pc + 2))) + m.c.x))) o4.1 o4.2 (by first | omega | (simp; omega))).mono ?_
    rintro e w9 ⟨rfl, s9⟩
    have S9 := Lib.hid s9
    clear s9
    go_wp2
    go_returns
    rw [HP.out]
    exact ⟨rfl, S9.out⟩
set_option maxHeartbeats 1000000 in
set_option maxRecDepth 100000 in
theorem place_8 {B : Nat} {w0 w : World} {b g : Nat} {m : Ms} (h : St B w0 b g m w) (kind : Int) (hl : m.cy.length < 900000) :
    Calls Tryz.prog 81 #[.pointer (some ⟨b, 0, none⟩), .int .i64 8, .int .i64 kind] w fun e w' => e = .returned (.int .u16 (placeF 8 kind m).1) ∧ St B w0 b g (placeF 8 kind m).2 w' := by
  have hA := h.cok
  have p1 := wrap_u16 (m.c.pc + 1)
  have p2 := wrap_u16 (m.c.pc + 2)
  have hz := Ms.look_ok h.byt (u16 (m.c.pc + 1))
  obtain ⟨cap, cv, hc, hf, _, _⟩ := h.open_
  have hz2 := Ms.look_ok h.byt (u16 (m.c.pc + 2))
  have hw : m.look (u16 (m.c.pc + 2)) * 256 + m.look (u16 (m.c.pc + 1)) = (m.word (u16 (m.c.pc + 1)) (u16 (m.c.pc + 2))) := rfl
  have ob := word_ok h.byt (u16 (m.c.pc + 1)) (u16 (m.c.pc + 2))
  have q3 := wrap_u16 ((m.word (u16 (m.c.pc + 1)) (u16 (m.c.pc + 2))) + m.c.y)
  have o3 := u16_ok ((m.word (u16 (m.c.pc + 1)) (u16 (m.c.pc + 2))) + m.c.y)
  have q4 := page_eq (m.word (u16 (m.c.pc + 1)) (u16 (m.c.pc + 2))) (u16 ((m.word (u16 (m.c.pc + 1)) (u16 (m.c.pc + 2))) + m.c.y)) ob.1 ob.2 o3.1 o3.2
  have o4 := page_ok (m.word (u16 (m.c.pc + 1)) (u16 (m.c.pc + 2))) (u16 ((m.word (u16 (m.c.pc + 1)) (u16 (m.c.pc + 2))) + m.c.y)) ob.1 ob.2
  have HY : Hid (kind ≠ 2 ∨ (pageOf (m.word (u16 (m.c.pc + 1)) (u16 (m.c.pc + 2))) (u16 ((m.word (u16 (m.c.pc + 1)) (u16 (m.c.pc + 2))) + m.c.y))) ≠ (u16 ((m.word (u16 (m.c.pc + 1)) (u16 (m.c.pc + 2))) + m.c.y)) → placeF 8 kind m = ((u16 ((m.word (u16 (m.c.pc + 1)) (u16 (m.c.pc + 2))) + m.c.y)), (m.read2 (u16 (m.c.pc + 1)) (u16 (m.c.pc + 2))).read (pageOf (m.word (u16 (m.c.pc + 1)) (u16 (m.c.pc + 2))) (u16 ((m.word (u16 (m.c.pc + 1)) (u16 (m.c.pc + 2))) + m.c.y))))) := fun hk => if_pos hk
  have HN : Hid (¬ (kind ≠ 2 ∨ (pageOf (m.word (u16 (m.c.pc + 1)) (u16 (m.c.pc + 2))) (u16 ((m.word (u16 (m.c.pc + 1)) (u16 (m.c.pc + 2))) + m.c.y))) ≠ (u16 ((m.word (u16 (m.c.pc + 1)) (u16 (m.c.pc + 2))) + m.c.y))) → placeF 8 kind m = ((u16 ((m.word (u16 (m.c.pc + 1)) (u16 (m.c.pc + 2))) + m.c.y)), (m.read2 (u16 (m.c.pc + 1)) (u16 (m.c.pc + 2))))) := fun hk => if_neg hk
  unfold Cp.ok at hA
  by_cases k2 : kind = 2
  · subst k2
    by_cases kp : (pageOf (m.word (u16 (m.c.pc + 1)) (u16 (m.c.pc + 2))) (u16 ((m.word (u16 (m.c.pc + 1)) (u16 (m.c.pc + 2))) + m.c.y))) = (u16 ((m.word (u16 (m.c.pc + 1)) (u16 (m.c.pc + 2))) + m.c.y))
    · have t2 : ((pageOf (m.word (u16 (m.c.pc + 1)) (u16 (m.c.pc + 2))) (u16 ((m.word (u16 (m.c.pc + 1)) (u16 (m.c.pc + 2))) + m.c.y))) == (u16 ((m.word (u16 (m.c.pc + 1)) (u16 (m.c.pc + 2))) + m.c.y))) = true := by simpa using kp
      have HP := Lib.hid (HN.out (by simp [kp]))
      clear HY HN kp
      go_enter Tryz.func81, Tryz.ntmps81
      go_wp2_with fail
      refine (read_c h (u16 (m.c.pc + 1)) (u16_ok _).1 (u16_ok _).2 (by first | omega | (simp; omega))).mono ?_
      rintro e w1 ⟨rfl, s1⟩
      obtain ⟨cap1, cv1, s1c, s1f, _, _⟩ := s1.open_
      go_wp2_with fail
      refine (read_c s1 (u16 (m.c.pc + 2)) (u16_ok _).1 (u16_ok _).2 (by first | omega | (simp; omega))).mono ?_
      rintro e w2 ⟨rfl, s2⟩
      obtain ⟨cap2, cv2, s2c, s2f, _, _⟩ := s2.open_
      go_wp2_with fail
      refine (wordOf_c (m.look (u16 (m.c.pc + 1))) (m.look (u16 (m.c.pc + 2))) hz.1 hz.2 hz2.1 hz2.2 _).mono ?_
      rintro e w3 ⟨rfl, rfl⟩
      have SL := Lib.hid s2
      go_wp2
      go_returns
      rw [HP.out]
      exact ⟨rfl, SL.out⟩
    · have t2 : ((pageOf (m.word (u16 (m.c.pc + 1)) (u16 (m.c.pc + 2))) (u16 ((m.word (u16 (m.c.pc + 1)) (u16 (m.c.pc + 2))) + m.c.y))) == (u16 ((m.word (u16 (m.c.pc + 1)) (u16 (m.c.pc + 2))) + m.c.y))) = false := by simpa using kp
      have HP := Lib.hid (HY.out (Or.inr kp))
      clear HY HN kp
      go_enter Tryz.func81, Tryz.ntmps81
      go_wp2_with fail
      refine (read_c h (u16 (m.c.pc + 1)) (u16_ok _).1 (u16_ok _).2 (by first | omega | (simp; omega))).mono ?_
      rintro e w1 ⟨rfl, s1⟩
      obtain ⟨cap1, cv1, s1c, s1f, _, _⟩ := s1.open_
      go_wp2_with fail
      refine (read_c s1 (u16 (m.c.pc + 2)) (u16_ok _).1 (u16_ok _).2 (by first | omega | (simp; omega))).mono ?_
      rintro e w2 ⟨rfl, s2⟩
      obtain ⟨cap2, cv2, s2c, s2f, _, _⟩ := s2.open_
      go_wp2_with fail
      refine (wordOf_c (m.look (u16 (m.c.pc + 1))) (m.look (u16 (m.c.pc + 2))) hz.1 hz.2 hz2.1 hz2.2 _).mono ?_
      rintro e w3 ⟨rfl, rfl⟩
      go_wp2_with fail
      refine (read_c s2 (pageOf (m.word (u16 (m.c.pc + 1)) (u16 (m.c.pc + 2))) (u16 ((m.word (u16 (m.c.pc + 1)) (u16 (m.c.pc + 2))) + m.c.y))) o4.1 o4.2 (by first | omega | (simp; omega))).mono ?_
      rintro e w9 ⟨rfl, s9⟩
      have S9 := Lib.hid s9
      clear s9
      go_wp2
      go_returns
      rw [HP.out]
      exact ⟨rfl, S9.out⟩
  · have t1 : (kind == 2) = false := by simpa using k2
    have HP := Lib.hid (HY.out (Or.inl k2))
    clear HY HN
    go_enter Tryz.func81, Tryz.ntmps81
    go_wp2_with fail
    refine (read_c h (u16 (m.c.pc + 1)) (u16_ok _).1 (u16_ok _).2 (by first | omega | (simp; omega))).mono ?_
    rintro e w1 ⟨rfl, s1⟩
    obtain ⟨cap1, cv1, s1c, s1f, _, _⟩ := s1.open_
    go_wp2_with fail
    refine (read_c s1 (u16 (m.c.pc + 2)) (u16_ok _).1 (u16_ok _).2 (by first | omega | (simp; omega))).mono ?_
    rintro e w2 ⟨rfl, s2⟩
    obtain ⟨cap2, cv2, s2c, s2f, _, _⟩ := s2.open_
    go_wp2_with fail
    refine (wordOf_c (m.look (u16 (m.c.pc + 1))) (m.look (u16 (m.c.pc + 2))) hz.1 hz.2 hz2.1 hz2.2 _).mono ?_
    rintro e w3 ⟨rfl, rfl⟩
    go_wp2_with fail
    refine (read_c s2 (pageOf (m.word (u16 (m.c.pc + 1)) (u16 (m.c.pc + 2))) (u16 ((m.word (u16 (m.c.pc + 1)) (u16 (m.c.pc + 2))) + m.c.y))) o4.1 o4.2 (by first | omega | (simp; omega))).mono ?_
    rintro e w9 ⟨rfl, s9⟩
    have S9 := Lib.hid s9
    clear s9
    go_wp2
    go_returns
    rw [HP.out]
    exact ⟨rfl, S9.out⟩
set_option maxHeartbeats 1000000 in
set_option maxRecDepth 100000 in
theorem place_11 {B : Nat} {w0 w : World} {b g : Nat} {m : Ms} (h : St B w0 b g m w) (kind : Int) (hl : m.cy.length < 900000) :
    Calls Tryz.prog 81 #[.pointer (some ⟨b, 0, none⟩), .int .i64 11, .int .i64 kind] w fun e w' => e = .returned (.int .u16 (placeF 11 kind m).1) ∧ St B w0 b g (placeF 11 kind m).2 w' := by
  have hA := h.cok
  have p1 := wrap_u16 (m.c.pc + 1)
  have p2 := wrap_u16 (m.c.pc + 2)
  have hz := Ms.look_ok h.byt (u16 (m.c.pc + 1))
  obtain ⟨cap, cv, hc, hf, _, _⟩ := h.open_
  have hz2 := Ms.look_ok h.byt (u16 (m.c.pc + 2))
  have hw : m.look (u16 (m.c.pc + 2)) * 256 + m.look (u16 (m.c.pc + 1)) = (m.word (u16 (m.c.pc + 1)) (u16 (m.c.pc + 2))) := rfl
  have ob := word_ok h.byt (m.look (u16 (m.c.pc + 1))) (u8 ((m.look (u16 (m.c.pc + 1))) + 1))
  have q3 := wrap_u16 ((m.word (m.look (u16 (m.c.pc + 1))) (u8 ((m.look (u16 (m.c.pc + 1))) + 1))) + m.c.y)
  have o3 := u16_ok ((m.word (m.look (u16 (m.c.pc + 1))) (u8 ((m.look (u16 (m.c.pc + 1))) + 1))) + m.c.y)
  have q4 := page_eq (m.word (m.look (u16 (m.c.pc + 1))) (u8 ((m.look (u16 (m.c.pc + 1))) + 1))) (u16 ((m.word (m.look (u16 (m.c.pc + 1))) (u8 ((m.look (u16 (m.c.pc + 1))) + 1))) + m.c.y)) ob.1 ob.2 o3.1 o3.2
  have o4 := page_ok (m.word (m.look (u16 (m.c.pc + 1))) (u8 ((m.look (u16 (m.c.pc + 1))) + 1))) (u16 ((m.word (m.look (u16 (m.c.pc + 1))) (u8 ((m.look (u16 (m.c.pc + 1))) + 1))) + m.c.y)) ob.1 ob.2
  have q1 : ((m.look (u16 (m.c.pc + 1))) + 1) % 256 = u8 ((m.look (u16 (m.c.pc + 1))) + 1) := rfl
  have o1 := u8_ok ((m.look (u16 (m.c.pc + 1))) + 1)
  have HY : Hid (kind ≠ 2 ∨ (pageOf (m.word (m.look (u16 (m.c.pc + 1))) (u8 ((m.look (u16 (m.c.pc + 1))) + 1))) (u16 ((m.word (m.look (u16 (m.c.pc + 1))) (u8 ((m.look (u16 (m.c.pc + 1))) + 1))) + m.c.y))) ≠ (u16 ((m.word (m.look (u16 (m.c.pc + 1))) (u8 ((m.look (u16 (m.c.pc + 1))) + 1))) + m.c.y)) → placeF 11 kind m = ((u16 ((m.word (m.look (u16 (m.c.pc + 1))) (u8 ((m.look (u16 (m.c.pc + 1))) + 1))) + m.c.y)), ((m.read (u16 (m.c.pc + 1))).read2 (m.look (u16 (m.c.pc + 1))) (u8 ((m.look (u16 (m.c.pc + 1))) + 1))).read (pageOf (m.word (m.look (u16 (m.c.pc + 1))) (u8 ((m.look (u16 (m.c.pc + 1))) + 1))) (u16 ((m.word (m.look (u16 (m.c.pc + 1))) (u8 ((m.look (u16 (m.c.pc + 1))) + 1))) + m.c.y))))) := fun hk => if_pos hk
  have HN : Hid (¬ (kind ≠ 2 ∨ (pageOf (m.word (m.look (u16 (m.c.pc + 1))) (u8 ((m.look (u16 (m.c.pc + 1))) + 1))) (u16 ((m.word (m.look (u16 (m.c.pc + 1))) (u8 ((m.look (u16 (m.c.pc + 1))) + 1))) + m.c.y))) ≠ (u16 ((m.word (m.look (u16 (m.c.pc + 1))) (u8 ((m.look (u16 (m.c.pc + 1))) + 1))) + m.c.y))) → placeF 11 kind m = ((u16 ((m.word (m.look (u16 (m.c.pc + 1))) (u8 ((m.look (u16 (m.c.pc + 1))) + 1))) + m.c.y)), ((m.read (u16 (m.c.pc + 1))).read2 (m.look (u16 (m.c.pc + 1))) (u8 ((m.look (u16 (m.c.pc + 1))) + 1))))) := fun hk => if_neg hk
  unfold Cp.ok at hA
  by_cases k2 : kind = 2
  · subst k2
    by_cases kp : (pageOf (m.word (m.look (u16 (m.c.pc + 1))) (u8 ((m.look (u16 (m.c.pc + 1))) + 1))) (u16 ((m.word (m.look (u16 (m.c.pc + 1))) (u8 ((m.look (u16 (m.c.pc + 1))) + 1))) + m.c.y))) = (u16 ((m.word (m.look (u16 (m.c.pc + 1))) (u8 ((m.look (u16 (m.c.pc + 1))) + 1))) + m.c.y))
    · have t2 : ((pageOf (m.word (m.look (u16 (m.c.pc + 1))) (u8 ((m.look (u16 (m.c.pc + 1))) + 1))) (u16 ((m.word (m.look (u16 (m.c.pc + 1))) (u8 ((m.look (u16 (m.c.pc + 1))) + 1))) + m.c.y))) == (u16 ((m.word (m.look (u16 (m.c.pc + 1))) (u8 ((m.look (u16 (m.c.pc + 1))) + 1))) + m.c.y))) = true := by simpa using kp
      have HP := Lib.hid (HN.out (by simp [kp]))
      clear HY HN kp
      go_enter Tryz.func81, Tryz.ntmps81
      go_wp2_with fail
      refine (read_c h (u16 (m.c.pc + 1)) (u16_ok _).1 (u16_ok _).2 (by first | omega | (simp; omega))).mono ?_
      rintro e w1 ⟨rfl, s1⟩
      obtain ⟨cap1, cv1, s1c, s1f, _, _⟩ := s1.open_
      go_wp2_with fail
      refine (readTwo_c s1 (m.look (u16 (m.c.pc + 1))) (u8 ((m.look (u16 (m.c.pc + 1))) + 1)) hz.1 (by omega) o1.1 (by omega) (by first | omega | (simp; omega))).mono ?_
      rintro e w2 ⟨rfl, s2⟩
      obtain ⟨cap2, cv2, s2c, s2f, _, _⟩ := s2.open_
      have SL := Lib.hid s2
      go_wp2
      go_returns
      rw [HP.out]
      exact ⟨rfl, SL.out⟩
    · have t2 : ((pageOf (m.word (m.look (u16 (m.c.pc + 1))) (u8 ((m.look (u16 (m.c.pc + 1))) + 1))) (u16 ((m.word (m.look (u16 (m.c.pc + 1))) (u8 ((m.look (u16 (m.c.pc + 1))) + 1))) + m.c.y))) == (u16 ((m.word (m.look (u16 (m.c.pc + 1))) (u8 ((m.look (u16 (m.c.pc + 1))) + 1))) + m.c.y))) = false := by simpa using kp
      have HP := Lib.hid (HY.out (Or.inr kp))
      clear HY HN kp
      go_enter Tryz.func81, Tryz.ntmps81
      go_wp2_with fail
      refine (read_c h (u16 (m.c.pc + 1)) (u16_ok _).1 (u16_ok _).2 (by first | omega | (simp; omega))).mono ?_
      rintro e w1 ⟨rfl, s1⟩
      obtain ⟨cap1, cv1, s1c, s1f, _, _⟩ := s1.open_
      go_wp2_with fail
      refine (readTwo_c s1 (m.look (u16 (m.c.pc + 1))) (u8 ((m.look (u16 (m.c.pc + 1))) + 1)) hz.1 (by omega) o1.1 (by omega) (by first | omega | (simp; omega))).mono ?_
      rintro e w2 ⟨rfl, s2⟩
      obtain ⟨cap2, cv2, s2c, s2f, _, _⟩ := s2.open_
      go_wp2_with fail
      refine (read_c s2 (pageOf (m.word (m.look (u16 (m.c.pc + 1))) (u8 ((m.look (u16 (m.c.pc + 1))) + 1))) (u16 ((m.word (m.look (u16 (m.c.pc + 1))) (u8 ((m.look (u16 (m.c.pc + 1))) + 1))) + m.c.y))) o4.1 o4.2 (by first | omega | (simp; omega))).mono ?_
      rintro e w9 ⟨rfl, s9⟩
      have S9 := Lib.hid s9
      clear s9
      go_wp2
      go_returns
      rw [HP.out]
      exact ⟨rfl, S9.out⟩
  · have t1 : (kind == 2) = false := by simpa using k2
    have HP := Lib.hid (HY.out (Or.inl k2))
    clear HY HN
    go_enter Tryz.func81, Tryz.ntmps81
    go_wp2_with fail
    refine (read_c h (u16 (m.c.pc + 1)) (u16_ok _).1 (u16_ok _).2 (by first | omega | (simp; omega))).mono ?_
    rintro e w1 ⟨rfl, s1⟩
    obtain ⟨cap1, cv1, s1c, s1f, _, _⟩ := s1.open_
    go_wp2_with fail
    refine (readTwo_c s1 (m.look (u16 (m.c.pc + 1))) (u8 ((m.look (u16 (m.c.pc + 1))) + 1)) hz.1 (by omega) o1.1 (by omega) (by first | omega | (simp; omega))).mono ?_
    rintro e w2 ⟨rfl, s2⟩
    obtain ⟨cap2, cv2, s2c, s2f, _, _⟩ := s2.open_
    go_wp2_with fail
    refine (read_c s2 (pageOf (m.word (m.look (u16 (m.c.pc + 1))) (u8 ((m.look (u16 (m.c.pc + 1))) + 1))) (u16 ((m.word (m.look (u16 (m.c.pc + 1))) (u8 ((m.look (u16 (m.c.pc + 1))) + 1))) + m.c.y))) o4.1 o4.2 (by first | omega | (simp; omega))).mono ?_
    rintro e w9 ⟨rfl, s9⟩
    have S9 := Lib.hid s9
    clear s9
    go_wp2
    go_returns
    rw [HP.out]
    exact ⟨rfl, S9.out⟩
theorem place_c {B : Nat} {w0 w : World} {b g : Nat} {m : Ms} (h : St B w0 b g m w) (mode kind : Int) (hm : mode = 3 ∨ mode = 4 ∨ mode = 5 ∨ mode = 6 ∨ mode = 7 ∨ mode = 8 ∨ mode = 10 ∨ mode = 11) (hl : m.cy.length < 900000) :
    Calls Tryz.prog 81 #[.pointer (some ⟨b, 0, none⟩), .int .i64 mode, .int .i64 kind] w fun e w' => e = .returned (.int .u16 (placeF mode kind m).1) ∧ St B w0 b g (placeF mode kind m).2 w' := by
  rcases hm with rfl | rfl | rfl | rfl | rfl | rfl | rfl | rfl
  · exact place_3 h kind hl
  · exact place_4 h kind hl
  · exact place_5 h kind hl
  · exact place_6 h kind hl
  · exact place_7 h kind hl
  · exact place_8 h kind hl
  · exact place_10 h kind hl
  · exact place_11 h kind hl
end Go.Proofs.YtemahcjglmhefaaGreatDoor
namespace Go.Proofs.YtemahcjglmhefaaGreatDoor
set_option linter.unusedVariables false
set_option linter.unusedSimpArgs false
open Go.RowKit
attribute [local irreducible] World.setCell

@[go_sem] theorem setPC_look (m : Ms) (v a : Int) : (m.setPC v).look a = m.look a := rfl
@[go_sem] theorem setS_look (m : Ms) (v a : Int) : (m.setS v).look a = m.look a := rfl
@[go_sem] theorem setF_look (m : Ms) (f : Fl) (a : Int) : (m.setF f).look a = m.look a := rfl
@[go_sem] theorem setPC_pc (m : Ms) (v : Int) : (m.setPC v).c.pc = v := rfl
@[go_sem] theorem setPC_f (m : Ms) (v : Int) : (m.setPC v).c.f = m.c.f := rfl
@[go_sem] theorem setPC_s (m : Ms) (v : Int) : (m.setPC v).c.s = m.c.s := rfl
@[go_sem] theorem setPC_a (m : Ms) (v : Int) : (m.setPC v).c.a = m.c.a := rfl
@[go_sem] theorem setF_pc (m : Ms) (f : Fl) : (m.setF f).c.pc = m.c.pc := rfl
@[go_sem] theorem setF_s (m : Ms) (f : Fl) : (m.setF f).c.s = m.c.s := rfl
@[go_sem] theorem setF_f (m : Ms) (f : Fl) : (m.setF f).c.f = f := rfl
@[go_sem] theorem setS_s (m : Ms) (v : Int) : (m.setS v).c.s = v := rfl
@[go_sem] theorem setS_pc (m : Ms) (v : Int) : (m.setS v).c.pc = m.c.pc := rfl
@[go_sem] theorem setS_f (m : Ms) (v : Int) : (m.setS v).c.f = m.c.f := rfl
theorem St.setPC' {B : Nat} {w0 w : World} {b g : Nat} {m : Ms} (h : St B w0 b g m w) {v : Int} (hv : 0 ≤ v ∧ v < 65536) : St B w0 b g (m.setPC v) (w.setCell ⟨b, 4, none⟩ (.int .u16 v)) := h.setPC hv
theorem St.setS' {B : Nat} {w0 w : World} {b g : Nat} {m : Ms} (h : St B w0 b g m w) {v : Int} (hv : 0 ≤ v ∧ v < 256) : St B w0 b g (m.setS v) (w.setCell ⟨b, 3, none⟩ (.int .u8 v)) := h.setS hv
theorem isTaken_l (l : List UInt8) (f : Fl) (w : World) :
    Calls Tryz.prog 100 #[.string ⟨l.toArray⟩, .agg #[.bool f.n, .bool f.v, .bool f.d, .bool f.i, .bool f.z, .bool f.c]] w fun e w' => e = .returned (.bool (takenF l f)) ∧ Below w.heap.size w w' := by
  have h := isTaken_c ⟨l.toArray⟩ f w
  have e : (⟨l.toArray⟩ : ByteArray).toList = l := by simp
  rw [e] at h
  exact h
set_option maxHeartbeats 1000000 in
set_option maxRecDepth 100000 in
theorem branch_c {B : Nat} {w0 w : World} {b g : Nat} {m : Ms} (h : St B w0 b g m w) (l : List UInt8) (hl : m.cy.length < 900000) :
    Calls Tryz.prog 83 #[.pointer (some ⟨b, 0, none⟩), .string ⟨l.toArray⟩] w fun e w' => e = .returned (.tuple #[]) ∧ St B w0 b g (branchF l m) w' := by
  have hA := h.cok
  have p1 := wrap_u16 (m.c.pc + 1)
  have p2 := wrap_u16 (m.c.pc + 2)
  have o1 := u16_ok (m.c.pc + 1)
  have o2 := u16_ok (m.c.pc + 2)
  have hz := Ms.look_ok h.byt (u16 (m.c.pc + 1))
  obtain ⟨cap, cv, hc, hf, _, _⟩ := h.open_
  unfold Cp.ok at hA
  have q1 : IntKind.u16.wrap (u16 (m.c.pc + 2) - 2) = m.c.pc := by rw [wrap_u16]; unfold u16; omega
  have o3 := target_ok m.c.pc (m.look (u16 (m.c.pc + 1)))
  have q4 := page_eq (u16 (m.c.pc + 2)) (targetF m.c.pc (m.look (u16 (m.c.pc + 1)))) o2.1 o2.2 o3.1 o3.2
  have o4 := page_ok (u16 (m.c.pc + 2)) (targetF m.c.pc (m.look (u16 (m.c.pc + 1)))) o2.1 o2.2
  cases ht : takenF l m.c.f
  · have HT := Lib.hid ht
    have HB : Hid (branchF l m = _) := if_neg (by rw [ht]; decide)
    clear ht
    go_enter Tryz.func83, Tryz.ntmps83
    go_wp2_with fail
    refine (read_c h (u16 (m.c.pc + 1)) (u16_ok _).1 (u16_ok _).2 (by first | omega | (simp; omega))).mono ?_
    rintro e w1 ⟨rfl, s1⟩
    obtain ⟨cap1, cv1, s1c, s1f, _, _⟩ := s1.open_
    have s2 := s1.setPC' o2
    go_wp2_with fail
    refine (isTaken_l l m.c.f _).mono ?_
    rintro e w3 ⟨rfl, hb3⟩
    have s3 := s2.later hb3
    obtain ⟨cap3, cv3, s3c, s3f, _, _⟩ := s3.open_
    clear s2 hb3
    have S3 := Lib.hid s3
    rw [HT.out]
    go_wp2
    go_returns
    rw [HB.out]
    exact ⟨rfl, S3.out⟩
  · have HT := Lib.hid ht
    by_cases kp : (pageOf (u16 (m.c.pc + 2)) (targetF m.c.pc (m.look (u16 (m.c.pc + 1))))) = (targetF m.c.pc (m.look (u16 (m.c.pc + 1))))
    · have t2 : ((pageOf (u16 (m.c.pc + 2)) (targetF m.c.pc (m.look (u16 (m.c.pc + 1))))) == (targetF m.c.pc (m.look (u16 (m.c.pc + 1))))) = true := by simpa using kp
      have HB : Hid (branchF l m = _) := (if_pos ht).trans (congrArg (fun q : Ms => q.setPC (targetF m.c.pc (m.look (u16 (m.c.pc + 1))))) (if_neg (fun k => k kp)))
      clear ht kp
      go_enter Tryz.func83, Tryz.ntmps83
      go_wp2_with fail
      refine (read_c h (u16 (m.c.pc + 1)) (u16_ok _).1 (u16_ok _).2 (by first | omega | (simp; omega))).mono ?_
      rintro e w1 ⟨rfl, s1⟩
      obtain ⟨cap1, cv1, s1c, s1f, _, _⟩ := s1.open_
      have s2 := s1.setPC' o2
      go_wp2_with fail
      refine (isTaken_l l m.c.f _).mono ?_
      rintro e w3 ⟨rfl, hb3⟩
      have s3 := s2.later hb3
      obtain ⟨cap3, cv3, s3c, s3f, _, _⟩ := s3.open_
      clear s2 hb3
      rw [HT.out]
      go_wp2_with fail
      refine (read_c s3 (u16 (m.c.pc + 2)) o2.1 o2.2 (by first | omega | (simp; omega))).mono ?_
      rintro e w4 ⟨rfl, s4⟩
      obtain ⟨cap4, cv4, s4c, s4f, _, _⟩ := s4.open_
      go_wp2_with fail
      refine (target_c m.c.pc (m.look (u16 (m.c.pc + 1))) (by omega) (by omega) hz.1 hz.2 _).mono ?_
      rintro e w5 ⟨rfl, rfl⟩
      have s5 := s4.setPC' o3
      have S5 := Lib.hid s5
      clear s5
      go_wp2
      go_returns
      rw [HB.out]
      exact ⟨rfl, S5.out⟩
    · have t2 : ((pageOf (u16 (m.c.pc + 2)) (targetF m.c.pc (m.look (u16 (m.c.pc + 1))))) == (targetF m.c.pc (m.look (u16 (m.c.pc + 1))))) = false := by simpa using kp
      have HB : Hid (branchF l m = _) := (if_pos ht).trans (congrArg (fun q : Ms => q.setPC (targetF m.c.pc (m.look (u16 (m.c.pc + 1))))) (if_pos kp))
      clear ht kp
      go_enter Tryz.func83, Tryz.ntmps83
      go_wp2_with fail
      refine (read_c h (u16 (m.c.pc + 1)) (u16_ok _).1 (u16_ok _).2 (by first | omega | (simp; omega))).mono ?_
      rintro e w1 ⟨rfl, s1⟩
      obtain ⟨cap1, cv1, s1c, s1f, _, _⟩ := s1.open_
      have s2 := s1.setPC' o2
      go_wp2_with fail
      refine (isTaken_l l m.c.f _).mono ?_
      rintro e w3 ⟨rfl, hb3⟩
      have s3 := s2.later hb3
      obtain ⟨cap3, cv3, s3c, s3f, _, _⟩ := s3.open_
      clear s2 hb3
      rw [HT.out]
      go_wp2_with fail
      refine (read_c s3 (u16 (m.c.pc + 2)) o2.1 o2.2 (by first | omega | (simp; omega))).mono ?_
      rintro e w4 ⟨rfl, s4⟩
      obtain ⟨cap4, cv4, s4c, s4f, _, _⟩ := s4.open_
      go_wp2_with fail
      refine (target_c m.c.pc (m.look (u16 (m.c.pc + 1))) (by omega) (by omega) hz.1 hz.2 _).mono ?_
      rintro e w5 ⟨rfl, rfl⟩
      go_wp2_with fail
      refine (read_c s4 (pageOf (u16 (m.c.pc + 2)) (targetF m.c.pc (m.look (u16 (m.c.pc + 1))))) o4.1 o4.2 (by first | omega | (simp; omega))).mono ?_
      rintro e w6 ⟨rfl, s6⟩
      obtain ⟨cap6, cv6, s6c, s6f, _, _⟩ := s6.open_
      have s7 := s6.setPC' o3
      have S7 := Lib.hid s7
      clear s7
      go_wp2
      go_returns
      rw [HB.out]
      exact ⟨rfl, S7.out⟩
end Go.Proofs.YtemahcjglmhefaaGreatDoor
