/- The machine's method 'place', modes with a base. No condition. -/
import Derived.Test.YtemahcjglmhefaaDoorPlace
namespace Go.Proofs.YtemahcjglmhefaaDoor
open Go.RowKit
attribute [local irreducible] World.setCell

set_option maxHeartbeats 1000000 in
set_option maxRecDepth 100000 in
theorem place_6 {B : Nat} {w0 w : World} {b g : Nat} {m : Ms} (h : St B w0 b g m w) (kind : Int) (hl : m.cy.length < 900000) :
    Calls Tryd.prog 65 #[.pointer (some ⟨b, 0, none⟩), .int .i64 6, .int .i64 kind] w fun e w' => e = .returned (.int .u16 (placeF 6 kind m).1) ∧ St B w0 b g (placeF 6 kind m).2 w' := by
  have hA := h.cok
  have p1 := wrap_u16 (m.c.pc + 1)
  have p2 := wrap_u16 (m.c.pc + 2)
  have hz := Ms.look_ok h.byt (u16 (m.c.pc + 1))
  obtain ⟨cap, cv, hc, hf, _, _⟩ := h.open_
  have hz2 := Ms.look_ok h.byt (u16 (m.c.pc + 2))
  have hw : m.look (u16 (m.c.pc + 2)) * 256 + m.look (u16 (m.c.pc + 1)) = (m.word (u16 (m.c.pc + 1)) (u16 (m.c.pc + 2))) := rfl
  go_enter Tryd.func65, Tryd.ntmps65
  go_wp2_with fail
  refine (read_c h (u16 (m.c.pc + 1)) (u16_ok _).1 (u16_ok _).2 (by first | omega | (simp; omega))).mono ?_
  rintro e w1 ⟨rfl, s1⟩
  obtain ⟨cap1, cv1, s1c, s1f, _, _⟩ := s1.open_
  go_wp2_with fail
  refine (read_c s1 (u16 (m.c.pc + 2)) (u16_ok _).1 (u16_ok _).2 (by first | omega | (simp; omega))).mono ?_
  rintro e w2 ⟨rfl, s2⟩
  obtain ⟨cap2, cv2, s2c, s2f, _, _⟩ := s2.open_
  go_wp2_with fail
  refine (wordOf_c (m.look (u16 (m.c.pc + 1))) (m.look (u16 (m.c.pc + 2))) hz.1 hz.2 hz2.1 hz2.2 _).mono ?_
  rintro e w3 ⟨rfl, rfl⟩
  have S2 := Lib.hid s2
  go_wp2
  go_returns
  exact ⟨rfl, S2.out⟩
set_option maxHeartbeats 1000000 in
set_option maxRecDepth 100000 in
theorem place_7 {B : Nat} {w0 w : World} {b g : Nat} {m : Ms} (h : St B w0 b g m w) (kind : Int) (hl : m.cy.length < 900000) :
    Calls Tryd.prog 65 #[.pointer (some ⟨b, 0, none⟩), .int .i64 7, .int .i64 kind] w fun e w' => e = .returned (.int .u16 (placeF 7 kind m).1) ∧ St B w0 b g (placeF 7 kind m).2 w' := by
  have hA := h.cok
  have p1 := wrap_u16 (m.c.pc + 1)
  have p2 := wrap_u16 (m.c.pc + 2)
  have hz := Ms.look_ok h.byt (u16 (m.c.pc + 1))
  obtain ⟨cap, cv, hc, hf, _, _⟩ := h.open_
  have hz2 := Ms.look_ok h.byt (u16 (m.c.pc + 2))
  have hw : m.look (u16 (m.c.pc + 2)) * 256 + m.look (u16 (m.c.pc + 1)) = (m.word (u16 (m.c.pc + 1)) (u16 (m.c.pc + 2))) := rfl
  have ob := word_ok h.byt (u16 (m.c.pc + 1)) (u16 (m.c.pc + 2))
  have q3 := wrap_u16 ((m.word (u16 (m.c.pc + 1)) (u16 (m.c.pc + 2))) + m.c.x)
  have o3 := u16_ok ((m.word (u16 (m.c.pc + 1)) (u16 (m.c.pc + 2))) + m.c.x)
  have q4 := page_eq (m.word (u16 (m.c.pc + 1)) (u16 (m.c.pc + 2))) (u16 ((m.word (u16 (m.c.pc + 1)) (u16 (m.c.pc + 2))) + m.c.x)) ob.1 ob.2 o3.1 o3.2
  have o4 := page_ok (m.word (u16 (m.c.pc + 1)) (u16 (m.c.pc + 2))) (u16 ((m.word (u16 (m.c.pc + 1)) (u16 (m.c.pc + 2))) + m.c.x)) ob.1 ob.2
  have HY : Hid (kind ≠ 2 ∨ (pageOf (m.word (u16 (m.c.pc + 1)) (u16 (m.c.pc + 2))) (u16 ((m.word (u16 (m.c.pc + 1)) (u16 (m.c.pc + 2))) + m.c.x))) ≠ (u16 ((m.word (u16 (m.c.pc + 1)) (u16 (m.c.pc + 2))) + m.c.x)) → placeF 7 kind m = ((u16 ((m.word (u16 (m.c.pc + 1)) (u16 (m.c.pc + 2))) + m.c.x)), (m.read2 (u16 (m.c.pc + 1)) (u16 (m.c.pc + 2))).read (pageOf (m.word (u16 (m.c.pc + 1)) (u16 (m.c.pc + 2))) (u16 ((m.word (u16 (m.c.pc + 1)) (u16 (m.c.pc + 2))) + m.c.x))))) := fun hk => if_pos hk
  have HN : Hid (¬ (kind ≠ 2 ∨ (pageOf (m.word (u16 (m.c.pc + 1)) (u16 (m.c.pc + 2))) (u16 ((m.word (u16 (m.c.pc + 1)) (u16 (m.c.pc + 2))) + m.c.x))) ≠ (u16 ((m.word (u16 (m.c.pc + 1)) (u16 (m.c.pc + 2))) + m.c.x))) → placeF 7 kind m = ((u16 ((m.word (u16 (m.c.pc + 1)) (u16 (m.c.pc + 2))) + m.c.x)), (m.read2 (u16 (m.c.pc + 1)) (u16 (m.c.pc + 2))))) := fun hk => if_neg hk
  unfold Cp.ok at hA
  by_cases k2 : kind = 2
  · subst k2
    by_cases kp : (pageOf (m.word (u16 (m.c.pc + 1)) (u16 (m.c.pc + 2))) (u16 ((m.word (u16 (m.c.pc + 1)) (u16 (m.c.pc + 2))) + m.c.x))) = (u16 ((m.word (u16 (m.c.pc + 1)) (u16 (m.c.pc + 2))) + m.c.x))
    · have t2 : ((pageOf (m.word (u16 (m.c.pc + 1)) (u16 (m.c.pc + 2))) (u16 ((m.word (u16 (m.c.pc + 1)) (u16 (m.c.pc + 2))) + m.c.x))) == (u16 ((m.word (u16 (m.c.pc + 1)) (u16 (m.c.pc + 2))) + m.c.x))) = true := by simpa using kp
      have HP := Lib.hid (HN.out (by simp [kp]))
      clear HY HN kp
      go_enter Tryd.func65, Tryd.ntmps65
      go_wp2_with fail
      refine (read_c h (u16 (m.c.pc + 1)) (u16_ok _).1 (u16_ok _).2 (by first | omega | (simp; omega))).mono ?_
      rintro e w1 ⟨rfl, s1⟩
      obtain ⟨cap1, cv1, s1c, s1f, _, _⟩ := s1.open_
      go_wp2_with fail
      refine (read_c s1 (u16 (m.c.pc + 2)) (u16_ok _).1 (u16_ok _).2 (by first | omega | (simp; omega))).mono ?_
      rintro e w2 ⟨rfl, s2⟩
      obtain ⟨cap2, cv2, s2c, s2f, _, _⟩ := s2.open_
      go_wp2_with fail
      refine (wordOf_c (m.look (u16 (m.c.pc + 1))) (m.look (u16 (m.c.pc + 2))) hz.1 hz.2 hz2.1 hz2.2 _).mono ?_
      rintro e w3 ⟨rfl, rfl⟩
      have SL := Lib.hid s2
      go_wp2
      go_returns
      rw [HP.out]
      exact ⟨rfl, SL.out⟩
    · have t2 : ((pageOf (m.word (u16 (m.c.pc + 1)) (u16 (m.c.pc + 2))) (u16 ((m.word (u16 (m.c.pc + 1)) (u16 (m.c.pc + 2))) + m.c.x))) == (u16 ((m.word (u16 (m.c.pc + 1)) (u16 (m.c.pc + 2))) + m.c.x))) = false := by simpa using kp
      have HP := Lib.hid (HY.out (Or.inr kp))
      clear HY HN kp
      go_enter Tryd.func65, Tryd.ntmps65
      go_wp2_with fail
      refine (read_c h (u16 (m.c.pc + 1)) (u16_ok _).1 (u16_ok _).2 (by first | omega | (simp; omega))).mono ?_
      rintro e w1 ⟨rfl, s1⟩
      obtain ⟨cap1, cv1, s1c, s1f, _, _⟩ := s1.open_
      go_wp2_with fail
      refine (read_c s1 (u16 (m.c.pc + 2)) (u16_ok _).1 (u16_ok _).2 (by first | omega | (simp; omega))).mono ?_
      rintro e w2 ⟨rfl, s2⟩
      obtain ⟨cap2, cv2, s2c, s2f, _, _⟩ := s2.open_
      go_wp2_with fail
      refine (wordOf_c (m.look (u16 (m.c.pc + 1))) (m.look (u16 (m.c.pc + 2))) hz.1 hz.2 hz2.1 hz2.2 _).mono ?_
      rintro e w3 ⟨rfl, rfl⟩
      go_wp2_with fail
      refine (read_c s2 (pageOf (m.word (u16 (m.c.pc + 1)) (u16 (m.c.pc + 2))) (u16 ((m.word (u16 (m.c.pc + 1)) (u16 (m.c.pc + 2))) + m.c.x))) o4.1 o4.2 (by first | omega | (simp; omega))).mono ?_
      rintro e w9 ⟨rfl, s9⟩
      have S9 := Lib.hid s9
      clear s9
      go_wp2
      go_returns
      rw [HP.out]
      exact ⟨rfl, S9.out⟩
  · have t1 : (kind == 2) = false := by simpa using k2
    have HP := Lib.hid (HY.out (Or.inl k2))
    clear HY HN
    go_enter Tryd.func65, Tryd.ntmps65
    go_wp2_with fail
    refine (read_c h (u16 (m.c.pc + 1)) (u16_ok _).1 (u16_ok _).2 (by first | omega | (simp; omega))).mono ?_
    rintro e w1 ⟨rfl, s1⟩
    obtain ⟨cap1, cv1, s1c, s1f, _, _⟩ := s1.open_
    go_wp2_with fail
    refine (read_c s1 (u16 (m.c.pc + 2)) (u16_ok _).1 (u16_ok _).2 (by first | omega | (simp; omega))).mono ?_
    rintro e w2 ⟨rfl, s2⟩
    obtain ⟨cap2, cv2, s2c, s2f, _, _⟩ := s2.open_
    go_wp2_with fail
    refine (wordOf_c (m.look (u16 (m.c.pc + 1))) (m.look (u16 (m.c.pc + 2))) hz.1 hz.2 hz2.1 hz2.2 _).mono ?_
    rintro e w3 ⟨rfl, rfl⟩
    go_wp2_with fail
    refine (read_c s2 (pageOf (m.word (u16 (m.c.pc + 1)) (u16 (m.c.pc + 2))) (u16 ((m.word (u16 (m.c.pc + 1)) (u16 (m.c.pc + 2))) + m.c.x))) o4.1 o4.2 (by first | omega | (simp; omega))).mono ?_
    rintro e w9 ⟨rfl, s9⟩
    have S9 := Lib.hid s9
    clear s9
    go_wp2
    go_returns
    rw [HP.out]
    exact ⟨rfl, S9.out⟩
set_option maxHeartbeats 1000000 in
set_option maxRecDepth 100000 in
theorem place_8 {B : Nat} {w0 w : World} {b g : Nat} {m : Ms} (h : St B w0 b g m w) (kind : Int) (hl : m.cy.length < 900000) :
    Calls Tryd.prog 65 #[.pointer (some ⟨b, 0, none⟩), .int .i64 8, .int .i64 kind] w fun e w' => e = .returned (.int .u16 (placeF 8 kind m).1) ∧ St B w0 b g (placeF 8 kind m).2 w' := by
  have hA := h.cok
  have p1 := wrap_u16 (m.c.pc + 1)
  have p2 := wrap_u16 (m.c.pc + 2)
  have hz := Ms.look_ok h.byt (u16 (m.c.pc + 1))
  obtain ⟨cap, cv, hc, hf, _, _⟩ := h.open_
  have hz2 := Ms.look_ok h.byt (u16 (m.c.pc + 2))
  have hw : m.look (u16 (m.c.pc + 2)) * 256 + m.look (u16 (m.c.pc + 1)) = (m.word (u16 (m.c.pc + 1)) (u16 (m.c.pc + 2))) := rfl
  have ob := word_ok h.byt (u16 (m.c.pc + 1)) (u16 (m.c.pc + 2))
  have q3 := wrap_u16 ((m.word (u16 (m.c.pc + 1)) (u16 (m.c.pc + 2))) + m.c.y)
  have o3 := u16_ok ((m.word (u16 (m.c.pc + 1)) (u16 (m.c.pc + 2))) + m.c.y)
  have q4 := page_eq (m.word (u16 (m.c.pc + 1)) (u16 (m.c.pc + 2))) (u16 ((m.word (u16 (m.c.pc + 1)) (u16 (m.c.pc + 2))) + m.c.y)) ob.1 ob.2 o3.1 o3.2
  have o4 := page_ok (m.word (u16 (m.c.pc + 1)) (u16 (m.c.pc + 2))) (u16 ((m.word (u16 (m.c.pc + 1)) (u16 (m.c.pc + 2))) + m.c.y)) ob.1 ob.2
  have HY : Hid (kind ≠ 2 ∨ (pageOf (m.word (u16 (m.c.pc + 1)) (u16 (m.c.pc + 2))) (u16 ((m.word (u16 (m.c.pc + 1)) (u16 (m.c.pc + 2))) + m.c.y))) ≠ (u16 ((m.word (u16 (m.c.pc + 1)) (u16 (m.c.pc + 2))) + m.c.y)) → placeF 8 kind m = ((u16 ((m.word (u16 (m.c.pc + 1)) (u16 (m.c.pc + 2))) + m.c.y)), (m.read2 (u16 (m.c.pc + 1)) (u16 (m.c.pc + 2))).read (pageOf (m.word (u16 (m.c.pc + 1)) (u16 (m.c.pc + 2))) (u16 ((m.word (u16 (m.c.pc + 1)) (u16 (m.c.pc + 2))) + m.c.y))))) := fun hk => if_pos hk
  have HN : Hid (¬ (kind ≠ 2 ∨ (pageOf (m.word (u16 (m.c.pc + 1)) (u16 (m.c.pc + 2))) (u16 ((m.word (u16 (m.c.pc + 1)) (u16 (m.c.pc + 2))) + m.c.y))) ≠ (u16 ((m.word (u16 (m.c.pc + 1)) (u16 (m.c.pc + 2))) + m.c.y))) → placeF 8 kind m = ((u16 ((m.word (u16 (m.c.pc + 1)) (u16 (m.c.pc + 2))) + m.c.y)), (m.read2 (u16 (m.c.pc + 1)) (u16 (m.c.pc + 2))))) := fun hk => if_neg hk
  unfold Cp.ok at hA
  by_cases k2 : kind = 2
  · subst k2
    by_cases kp : (pageOf (m.word (u16 (m.c.pc + 1)) (u16 (m.c.pc + 2))) (u16 ((m.word (u16 (m.c.pc + 1)) (u16 (m.c.pc + 2))) + m.c.y))) = (u16 ((m.word (u16 (m.c.pc + 1)) (u16 (m.c.pc + 2))) + m.c.y))
    · have t2 : ((pageOf (m.word (u16 (m.c.pc + 1)) (u16 (m.c.pc + 2))) (u16 ((m.word (u16 (m.c.pc + 1)) (u16 (m.c.pc + 2))) + m.c.y))) == (u16 ((m.word (u16 (m.c.pc + 1)) (u16 (m.c.pc + 2))) + m.c.y))) = true := by simpa using kp
      have HP := Lib.hid (HN.out (by simp [kp]))
      clear HY HN kp
      go_enter Tryd.func65, Tryd.ntmps65
      go_wp2_with fail
      refine (read_c h (u16 (m.c.pc + 1)) (u16_ok _).1 (u16_ok _).2 (by first | omega | (simp; omega))).mono ?_
      rintro e w1 ⟨rfl, s1⟩
      obtain ⟨cap1, cv1, s1c, s1f, _, _⟩ := s1.open_
      go_wp2_with fail
      refine (read_c s1 (u16 (m.c.pc + 2)) (u16_ok _).1 (u16_ok _).2 (by first | omega | (simp; omega))).mono ?_
      rintro e w2 ⟨rfl, s2⟩
      obtain ⟨cap2, cv2, s2c, s2f, _, _⟩ := s2.open_
      go_wp2_with fail
      refine (wordOf_c (m.look (u16 (m.c.pc + 1))) (m.look (u16 (m.c.pc + 2))) hz.1 hz.2 hz2.1 hz2.2 _).mono ?_
      rintro e w3 ⟨rfl, rfl⟩
      have SL := Lib.hid s2
      go_wp2
      go_returns
      rw [HP.out]
      exact ⟨rfl, SL.out⟩
    · have t2 : ((pageOf (m.word (u16 (m.c.pc + 1)) (u16 (m.c.pc + 2))) (u16 ((m.word (u16 (m.c.pc + 1)) (u16 (m.c.pc + 2))) + m.c.y))) == (u16 ((m.word (u16 (m.c.pc + 1)) (u16 (m.c.pc + 2))) + m.c.y))) = false := by simpa using kp
      have HP := Lib.hid (HY.out (Or.inr kp))
      clear HY HN kp
      go_enter Tryd.func65, Tryd.ntmps65
      go_wp2_with fail
      refine (read_c h (u16 (m.c.pc + 1)) (u16_ok _).1 (u16_ok _).2 (by first | omega | (simp; omega))).mono ?_
      rintro e w1 ⟨rfl, s1⟩
      obtain ⟨cap1, cv1, s1c, s1f, _, _⟩ := s1.open_
      go_wp2_with fail
      refine (read_c s1 (u16 (m.c.pc + 2)) (u16_ok _).1 (u16_ok _).2 (by first | omega | (simp; omega))).mono ?_
      rintro e w2 ⟨rfl, s2⟩
      obtain ⟨cap2, cv2, s2c, s2f, _, _⟩ := s2.open_
      go_wp2_with fail
      refine (wordOf_c (m.look (u16 (m.c.pc + 1))) (m.look (u16 (m.c.pc + 2))) hz.1 hz.2 hz2.1 hz2.2 _).mono ?_
      rintro e w3 ⟨rfl, rfl⟩
      go_wp2_with fail
      refine (read_c s2 (pageOf (m.word (u16 (m.c.pc + 1)) (u16 (m.c.pc + 2))) (u16 ((m.word (u16 (m.c.pc + 1)) (u16 (m.c.pc + 2))) + m.c.y))) o4.1 o4.2 (by first | omega | (simp; omega))).mono ?_
      rintro e w9 ⟨rfl, s9⟩
      have S9 := Lib.hid s9
      clear s9
      go_wp2
      go_returns
      rw [HP.out]
      exact ⟨rfl, S9.out⟩
  · have t1 : (kind == 2) = false := by simpa using k2
    have HP := Lib.hid (HY.out (Or.inl k2))
    clear HY HN
    go_enter Tryd.func65, Tryd.ntmps65
    go_wp2_with fail
    refine (read_c h (u16 (m.c.pc + 1)) (u16_ok _).1 (u16_ok _).2 (by first | omega | (simp; omega))).mono ?_
    rintro e w1 ⟨rfl, s1⟩
    obtain ⟨cap1, cv1, s1c, s1f, _, _⟩ := s1.open_
    go_wp2_with fail
    refine (read_c s1 (u16 (m.c.pc + 2)) (u16_ok _).1 (u16_ok _).2 (by first | omega | (simp; omega))).mono ?_
    rintro e w2 ⟨rfl, s2⟩
    obtain ⟨cap2, cv2, s2c, s2f, _, _⟩ := s2.open_
    go_wp2_with fail
    refine (wordOf_c (m.look (u16 (m.c.pc + 1))) (m.look (u16 (m.c.pc + 2))) hz.1 hz.2 hz2.1 hz2.2 _).mono ?_
    rintro e w3 ⟨rfl, rfl⟩
    go_wp2_with fail
    refine (read_c s2 (pageOf (m.word (u16 (m.c.pc + 1)) (u16 (m.c.pc + 2))) (u16 ((m.word (u16 (m.c.pc + 1)) (u16 (m.c.pc + 2))) + m.c.y))) o4.1 o4.2 (by first | omega | (simp; omega))).mono ?_
    rintro e w9 ⟨rfl, s9⟩
    have S9 := Lib.hid s9
    clear s9
    go_wp2
    go_returns
    rw [HP.out]
    exact ⟨rfl, S9.out⟩
set_option maxHeartbeats 1000000 in
set_option maxRecDepth 100000 in
theorem place_11 {B : Nat} {w0 w : World} {b g : Nat} {m : Ms} (h : St B w0 b g m w) (kind : Int) (hl : m.cy.length < 900000) :
    Calls Tryd.prog 65 #[.pointer (some ⟨b, 0, none⟩), .int .i64 11, .int .i64 kind] w fun e w' => e = .returned (.int .u16 (placeF 11 kind m).1) ∧ St B w0 b g (placeF 11 kind m).2 w' := by
  have hA := h.cok
  have p1 := wrap_u16 (m.c.pc + 1)
  have p2 := wrap_u16 (m.c.pc + 2)
  have hz := Ms.look_ok h.byt (u16 (m.c.pc + 1))
  obtain ⟨cap, cv, hc, hf, _, _⟩ := h.open_
  have hz2 := Ms.look_ok h.byt (u16 (m.c.pc + 2))
  have hw : m.look (u16 (m.c.pc + 2)) * 256 + m.look (u16 (m.c.pc + 1)) = (m.word (u16 (m.c.pc + 1)) (u16 (m.c.pc + 2))) := rfl
  have ob := word_ok h.byt (m.look (u16 (m.c.pc + 1))) (u8 ((m.look (u16 (m.c.pc + 1))) + 1))
  have q3 := wrap_u16 ((m.word (m.look (u16 (m.c.pc + 1))) (u8 ((m.look (u16 (m.c.pc + 1))) + 1))) + m.c.y)
  have o3 := u16_ok ((m.word (m.look (u16 (m.c.pc + 1))) (u8 ((m.look (u16 (m.c.pc + 1))) + 1))) + m.c.y)
  have q4 := page_eq (m.word (m.look (u16 (m.c.pc + 1))) (u8 ((m.look (u16 (m.c.pc + 1))) + 1))) (u16 ((m.word (m.look (u16 (m.c.pc + 1))) (u8 ((m.look (u16 (m.c.pc + 1))) + 1))) + m.c.y)) ob.1 ob.2 o3.1 o3.2
  have o4 := page_ok (m.word (m.look (u16 (m.c.pc + 1))) (u8 ((m.look (u16 (m.c.pc + 1))) + 1))) (u16 ((m.word (m.look (u16 (m.c.pc + 1))) (u8 ((m.look (u16 (m.c.pc + 1))) + 1))) + m.c.y)) ob.1 ob.2
  have q1 : ((m.look (u16 (m.c.pc + 1))) + 1) % 256 = u8 ((m.look (u16 (m.c.pc + 1))) + 1) := rfl
  have o1 := u8_ok ((m.look (u16 (m.c.pc + 1))) + 1)
  have HY : Hid (kind ≠ 2 ∨ (pageOf (m.word (m.look (u16 (m.c.pc + 1))) (u8 ((m.look (u16 (m.c.pc + 1))) + 1))) (u16 ((m.word (m.look (u16 (m.c.pc + 1))) (u8 ((m.look (u16 (m.c.pc + 1))) + 1))) + m.c.y))) ≠ (u16 ((m.word (m.look (u16 (m.c.pc + 1))) (u8 ((m.look (u16 (m.c.pc + 1))) + 1))) + m.c.y)) → placeF 11 kind m = ((u16 ((m.word (m.look (u16 (m.c.pc + 1))) (u8 ((m.look (u16 (m.c.pc + 1))) + 1))) + m.c.y)), ((m.read (u16 (m.c.pc + 1))).read2 (m.look (u16 (m.c.pc + 1))) (u8 ((m.look (u16 (m.c.pc + 1))) + 1))).read (pageOf (m.word (m.look (u16 (m.c.pc + 1))) (u8 ((m.look (u16 (m.c.pc + 1))) + 1))) (u16 ((m.word (m.look (u16 (m.c.pc + 1))) (u8 ((m.look (u16 (m.c.pc + 1))) + 1))) + m.c.y))))) := fun hk => if_pos hk
  have HN : Hid (¬ (kind ≠ 2 ∨ (pageOf (m.word (m.look (u16 (m.c.pc + 1))) (u8 ((m.look (u16 (m.c.pc + 1))) + 1))) (u16 ((m.word (m.look (u16 (m.c.pc + 1))) (u8 ((m.look (u16 (m.c.pc + 1))) + 1))) + m.c.y))) ≠ (u16 ((m.word (m.look (u16 (m.c.pc + 1))) (u8 ((m.look (u16 (m.c.pc + 1))) + 1))) + m.c.y))) → placeF 11 kind m = ((u16 ((m.word (m.look (u16 (m.c.pc + 1))) (u8 ((m.look (u16 (m.c.pc + 1))) + 1))) + m.c.y)), ((m.read (u16 (m.c.pc + 1))).read2 (m.look (u16 (m.c.pc + 1))) (u8 ((m.look (u16 (m.c.pc + 1))) + 1))))) := fun hk => if_neg hk
  unfold Cp.ok at hA
  by_cases k2 : kind = 2
  · subst k2
    by_cases kp : (pageOf (m.word (m.look (u16 (m.c.pc + 1))) (u8 ((m.look (u16 (m.c.pc + 1))) + 1))) (u16 ((m.word (m.look (u16 (m.c.pc + 1))) (u8 ((m.look (u16 (m.c.pc + 1))) + 1))) + m.c.y))) = (u16 ((m.word (m.look (u16 (m.c.pc + 1))) (u8 ((m.look (u16 (m.c.pc + 1))) + 1))) + m.c.y))
    · have t2 : ((pageOf (m.word (m.look (u16 (m.c.pc + 1))) (u8 ((m.look (u16 (m.c.pc + 1))) + 1))) (u16 ((m.word (m.look (u16 (m.c.pc + 1))) (u8 ((m.look (u16 (m.c.pc + 1))) + 1))) + m.c.y))) == (u16 ((m.word (m.look (u16 (m.c.pc + 1))) (u8 ((m.look (u16 (m.c.pc + 1))) + 1))) + m.c.y))) = true := by simpa using kp
      have HP := Lib.hid (HN.out (by simp [kp]))
      clear HY HN kp
      go_enter Tryd.func65, Tryd.ntmps65
      go_wp2_with fail
      refine (read_c h (u16 (m.c.pc + 1)) (u16_ok _).1 (u16_ok _).2 (by first | omega | (simp; omega))).mono ?_
      rintro e w1 ⟨rfl, s1⟩
      obtain ⟨cap1, cv1, s1c, s1f, _, _⟩ := s1.open_
      go_wp2_with fail
      refine (readTwo_c s1 (m.look (u16 (m.c.pc + 1))) (u8 ((m.look (u16 (m.c.pc + 1))) + 1)) hz.1 (by omega) o1.1 (by omega) (by first | omega | (simp; omega))).mono ?_
      rintro e w2 ⟨rfl, s2⟩
      obtain ⟨cap2, cv2, s2c, s2f, _, _⟩ := s2.open_
      have SL := Lib.hid s2
      go_wp2
      go_returns
      rw [HP.out]
      exact ⟨rfl, SL.out⟩
    · have t2 : ((pageOf (m.word (m.look (u16 (m.c.pc + 1))) (u8 ((m.look (u16 (m.c.pc + 1))) + 1))) (u16 ((m.word (m.look (u16 (m.c.pc + 1))) (u8 ((m.look (u16 (m.c.pc + 1))) + 1))) + m.c.y))) == (u16 ((m.word (m.look (u16 (m.c.pc + 1))) (u8 ((m.look (u16 (m.c.pc + 1))) + 1))) + m.c.y))) = false := by simpa using kp
      have HP := Lib.hid (HY.out (Or.inr kp))
      clear HY HN kp
      go_enter Tryd.func65, Tryd.ntmps65
      go_wp2_with fail
      refine (read_c h (u16 (m.c.pc + 1)) (u16_ok _).1 (u16_ok _).2 (by first | omega | (simp; omega))).mono ?_
      rintro e w1 ⟨rfl, s1⟩
      obtain ⟨cap1, cv1, s1c, s1f, _, _⟩ := s1.open_
      go_wp2_with fail
      refine (readTwo_c s1 (m.look (u16 (m.c.pc + 1))) (u8 ((m.look (u16 (m.c.pc + 1))) + 1)) hz.1 (by omega) o1.1 (by omega) (by first | omega | (simp; omega))).mono ?_
      rintro e w2 ⟨rfl, s2⟩
      obtain ⟨cap2, cv2, s2c, s2f, _, _⟩ := s2.open_
      go_wp2_with fail
      refine (read_c s2 (pageOf (m.word (m.look (u16 (m.c.pc + 1))) (u8 ((m.look (u16 (m.c.pc + 1))) + 1))) (u16 ((m.word (m.look (u16 (m.c.pc + 1))) (u8 ((m.look (u16 (m.c.pc + 1))) + 1))) + m.c.y))) o4.1 o4.2 (by first | omega | (simp; omega))).mono ?_
      rintro e w9 ⟨rfl, s9⟩
      have S9 := Lib.hid s9
      clear s9
      go_wp2
      go_returns
      rw [HP.out]
      exact ⟨rfl, S9.out⟩
  · have t1 : (kind == 2) = false := by simpa using k2
    have HP := Lib.hid (HY.out (Or.inl k2))
    clear HY HN
    go_enter Tryd.func65, Tryd.ntmps65
    go_wp2_with fail
    refine (read_c h (u16 (m.c.pc + 1)) (u16_ok _).1 (u16_ok _).2 (by first | omega | (simp; omega))).mono ?_
    rintro e w1 ⟨rfl, s1⟩
    obtain ⟨cap1, cv1, s1c, s1f, _, _⟩ := s1.open_
    go_wp2_with fail
    refine (readTwo_c s1 (m.look (u16 (m.c.pc + 1))) (u8 ((m.look (u16 (m.c.pc + 1))) + 1)) hz.1 (by omega) o1.1 (by omega) (by first | omega | (simp; omega))).mono ?_
    rintro e w2 ⟨rfl, s2⟩
    obtain ⟨cap2, cv2, s2c, s2f, _, _⟩ := s2.open_
    go_wp2_with fail
    refine (read_c s2 (pageOf (m.word (m.look (u16 (m.c.pc + 1))) (u8 ((m.look (u16 (m.c.pc + 1))) + 1))) (u16 ((m.word (m.look (u16 (m.c.pc + 1))) (u8 ((m.look (u16 (m.c.pc + 1))) + 1))) + m.c.y))) o4.1 o4.2 (by first | omega | (simp; omega))).mono ?_
    rintro e w9 ⟨rfl, s9⟩
    have S9 := Lib.hid s9
    clear s9
    go_wp2
    go_returns
    rw [HP.out]
    exact ⟨rfl, S9.out⟩
theorem place_c {B : Nat} {w0 w : World} {b g : Nat} {m : Ms} (h : St B w0 b g m w) (mode kind : Int) (hm : mode = 3 ∨ mode = 4 ∨ mode = 5 ∨ mode = 6 ∨ mode = 7 ∨ mode = 8 ∨ mode = 10 ∨ mode = 11) (hl : m.cy.length < 900000) :
    Calls Tryd.prog 65 #[.pointer (some ⟨b, 0, none⟩), .int .i64 mode, .int .i64 kind] w fun e w' => e = .returned (.int .u16 (placeF mode kind m).1) ∧ St B w0 b g (placeF mode kind m).2 w' := by
  rcases hm with rfl | rfl | rfl | rfl | rfl | rfl | rfl | rfl
  · exact place_3 h kind hl
  · exact place_4 h kind hl
  · exact place_5 h kind hl
  · exact place_6 h kind hl
  · exact place_7 h kind hl
  · exact place_8 h kind hl
  · exact place_10 h kind hl
  · exact place_11 h kind hl
end Go.Proofs.YtemahcjglmhefaaDoor
