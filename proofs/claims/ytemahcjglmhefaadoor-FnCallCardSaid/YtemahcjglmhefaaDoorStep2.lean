/- The machine's methods: what the stack gives and takes, operands, a step. No condition. -/
import Derived.Test.YtemahcjglmhefaaDoorFlow2
import Derived.Test.YtemahcjglmhefaaDoorClone
import Derived.Test.YtemahcjglmhefaaDoorPure6
namespace Go.Proofs.YtemahcjglmhefaaDoor
open Go.RowKit
attribute [local irreducible] World.setCell

set_option maxHeartbeats 1000000 in
set_option maxRecDepth 100000 in
theorem pull_c {B : Nat} {w0 w : World} {b g : Nat} {m : Ms} (h : St B w0 b g m w) (l : List UInt8) (hl : m.cy.length < 900000) :
    Calls Tryd.prog 44 #[.pointer (some ⟨b, 0, none⟩), .string ⟨l.toArray⟩] w fun e w' => e = .returned (.tuple #[]) ∧ St B w0 b g (pullF l m) w' := by
  have hA := h.cok
  have p1 := wrap_u16 (m.c.pc + 1)
  have p2 := wrap_u16 (m.c.pc + 2)
  have o1 := u16_ok (m.c.pc + 1)
  have o2 := u16_ok (m.c.pc + 2)
  have hz := Ms.look_ok h.byt (u16 (m.c.pc + 1))
  obtain ⟨cap, cv, hc, hf, _, _⟩ := h.open_
  unfold Cp.ok at hA
  have hs : 0 ≤ m.c.s ∧ m.c.s < 256 := by omega
  have ks := stk_ok hs
  have u1 : u16 (m.c.pc + 2) % 256 = u8 (m.c.pc + 2) := by unfold u16 u8; omega
  have u2 : 0 ≤ u16 (m.c.pc + 2) / 256 ∧ u16 (m.c.pc + 2) / 256 < 256 := by omega
  have u3 := u8_ok (m.c.pc + 2)
  have a1 : 256 + m.c.s = stk m.c.s := rfl
  have v1 := u8_ok (m.c.s + 1)
  have v2 := u8_ok (m.c.s + 2)
  have v3 := u8_ok (m.c.s + 3)
  have b1 : (m.c.s + 1) % 256 = u8 (m.c.s + 1) := rfl
  have b2 : (m.c.s + 2) % 256 = u8 (m.c.s + 2) := rfl
  have b3 : (m.c.s + 3) % 256 = u8 (m.c.s + 3) := rfl
  have k1 := stk_ok v1
  have k2 := stk_ok v2
  have k3 := stk_ok v3
  have c1 : 256 + u8 (m.c.s + 1) = stk (u8 (m.c.s + 1)) := rfl
  have c2 : 256 + u8 (m.c.s + 2) = stk (u8 (m.c.s + 2)) := rfl
  have c3 : 256 + u8 (m.c.s + 3) = stk (u8 (m.c.s + 3)) := rfl
  have hb := Ms.look_ok h.byt (stk (u8 (m.c.s + 1)))
  by_cases kl : l = [80, 76, 65]
  · subst kl
    go_enter Tryd.func44, Tryd.ntmps44
    go_wp2_with fail
    refine (read_c h (u16 (m.c.pc + 1)) (u16_ok _).1 (u16_ok _).2 (by first | omega | (simp; omega))).mono ?_
    rintro e w1 ⟨rfl, s1⟩
    obtain ⟨cap1, cv1, s1c, s1f, _, _⟩ := s1.open_
    go_wp2_with fail
    refine (stack_c m.c.s hs.1 hs.2 _).mono ?_
    rintro e wq ⟨rfl, rfl⟩
    go_wp2_with fail
    refine (read_c s1 (stk m.c.s) ks.1 ks.2 (by first | omega | (simp; omega))).mono ?_
    rintro e w2 ⟨rfl, s2⟩
    obtain ⟨cap2, cv2, s2c, s2f, _, _⟩ := s2.open_
    have s3 := s2.setS' v1
    have S3 := Lib.hid s3
    clear s3
    go_wp2_with fail
    refine (stack_c (u8 (m.c.s + 1)) v1.1 v1.2 _).mono ?_
    rintro e wq ⟨rfl, rfl⟩
    go_wp2_with fail
    refine (read_c S3.out (stk (u8 (m.c.s + 1))) k1.1 k1.2 (by first | omega | (simp; omega))).mono ?_
    rintro e w4 ⟨rfl, s4⟩
    obtain ⟨cap4, cv4, s4c, s4f, _, _⟩ := s4.open_
    go_wp2_with fail
    refine (do_LDA s4 (m.look (stk (u8 (m.c.s + 1)))) hb).mono ?_
    rintro e w5 ⟨rfl, s5⟩
    have S5 := Lib.hid s5
    clear s5
    go_wp2
    go_returns
    exact ⟨rfl, S5.out⟩
  · have kb : (l == [80, 76, 65]) = false := by simpa using kl
    have HF : Hid (pullF l m = _) := if_neg kl
    clear kl
    go_enter Tryd.func44, Tryd.ntmps44
    go_wp2_with fail
    refine (read_c h (u16 (m.c.pc + 1)) (u16_ok _).1 (u16_ok _).2 (by first | omega | (simp; omega))).mono ?_
    rintro e w1 ⟨rfl, s1⟩
    obtain ⟨cap1, cv1, s1c, s1f, _, _⟩ := s1.open_
    go_wp2_with fail
    refine (stack_c m.c.s hs.1 hs.2 _).mono ?_
    rintro e wq ⟨rfl, rfl⟩
    go_wp2_with fail
    refine (read_c s1 (stk m.c.s) ks.1 ks.2 (by first | omega | (simp; omega))).mono ?_
    rintro e w2 ⟨rfl, s2⟩
    obtain ⟨cap2, cv2, s2c, s2f, _, _⟩ := s2.open_
    have s3 := s2.setS' v1
    have S3 := Lib.hid s3
    clear s3
    go_wp2_with fail
    refine (stack_c (u8 (m.c.s + 1)) v1.1 v1.2 _).mono ?_
    rintro e wq ⟨rfl, rfl⟩
    go_wp2_with fail
    refine (read_c S3.out (stk (u8 (m.c.s + 1))) k1.1 k1.2 (by first | omega | (simp; omega))).mono ?_
    rintro e w4 ⟨rfl, s4⟩
    obtain ⟨cap4, cv4, s4c, s4f, _, _⟩ := s4.open_
    go_wp2_with fail
    refine (UnpackP_c (m.look (stk (u8 (m.c.s + 1)))) hb.1 hb.2 _).mono ?_
    rintro e w5 ⟨rfl, hb5⟩
    have s5 := s4.later hb5
    obtain ⟨cap5, cv5, s5c, s5f, _, _⟩ := s5.open_
    have S5 := Lib.hid s5
    clear s5 hb5
    go_wp2
    go_returns
    rw [HF.out]
    exact ⟨rfl, S5.out.setF _ _ _ _ _ _⟩
set_option maxHeartbeats 1000000 in
set_option maxRecDepth 100000 in
theorem pushOne_c {B : Nat} {w0 w : World} {b g : Nat} {m : Ms} (h : St B w0 b g m w) (l : List UInt8) (hl : m.cy.length < 900000) :
    Calls Tryd.prog 43 #[.pointer (some ⟨b, 0, none⟩), .string ⟨l.toArray⟩] w fun e w' => e = .returned (.tuple #[]) ∧ St B w0 b g (pushF l m) w' := by
  have hA := h.cok
  have p1 := wrap_u16 (m.c.pc + 1)
  have p2 := wrap_u16 (m.c.pc + 2)
  have o1 := u16_ok (m.c.pc + 1)
  have o2 := u16_ok (m.c.pc + 2)
  have hz := Ms.look_ok h.byt (u16 (m.c.pc + 1))
  obtain ⟨cap, cv, hc, hf, _, _⟩ := h.open_
  unfold Cp.ok at hA
  have hp := pack_ok m.c.f true
  by_cases kl : l = [80, 72, 65]
  · subst kl
    go_enter Tryd.func43, Tryd.ntmps43
    go_wp2_with fail
    refine (read_c h (u16 (m.c.pc + 1)) (u16_ok _).1 (u16_ok _).2 (by first | omega | (simp; omega))).mono ?_
    rintro e w1 ⟨rfl, s1⟩
    obtain ⟨cap1, cv1, s1c, s1f, _, _⟩ := s1.open_
    go_wp2_with fail
    refine (pushNew s1 [m.c.a] (byt1 (by omega)) (by first | omega | (simp; omega)) (by simp) _ _ rfl _ rfl).mono ?_
    rintro e w3 ⟨rfl, s3⟩
    have S3 := Lib.hid s3
    clear s3
    go_wp2
    go_returns
    exact ⟨rfl, S3.out⟩
  · have kb : (l == [80, 72, 65]) = false := by simpa using kl
    have HF : Hid (pushF l m = (m.read (u16 (m.c.pc + 1))).push [packF m.c.f true]) := by unfold pushF; rw [if_neg kl]; rfl
    clear kl
    go_enter Tryd.func43, Tryd.ntmps43
    go_wp2_with fail
    refine (read_c h (u16 (m.c.pc + 1)) (u16_ok _).1 (u16_ok _).2 (by first | omega | (simp; omega))).mono ?_
    rintro e w1 ⟨rfl, s1⟩
    obtain ⟨cap1, cv1, s1c, s1f, _, _⟩ := s1.open_
    go_wp2_with fail
    refine (PackP_c m.c.f true _).mono ?_
    rintro e w2 ⟨rfl, hb2⟩
    have s2 := s1.later hb2
    go_wp2_with fail
    refine (pushNew s2 [packF m.c.f true] (byt1 hp) (by first | omega | (simp; omega)) (by simp) _ _ rfl _ rfl).mono ?_
    rintro e w3 ⟨rfl, s3⟩
    have S3 := Lib.hid s3
    clear s3
    go_wp2
    go_returns
    rw [HF.out]
    exact ⟨rfl, S3.out⟩
theorem flow_c {B : Nat} {w0 w : World} {b g : Nat} {m : Ms} (h : St B w0 b g m w) (kind mode : Int) (l : List UInt8) (hk : kind = 5 ∨ kind = 6 ∨ kind = 7 ∨ kind = 8 ∨ kind = 9 ∨ kind = 10) (hl : m.cy.length < 900000) :
    Calls Tryd.prog 45 #[.pointer (some ⟨b, 0, none⟩), .int .i64 kind, .int .i64 mode, .string ⟨l.toArray⟩] w fun e w' => e = .returned (.tuple #[]) ∧ St B w0 b g (flowF kind mode l m) w' := by
  rcases hk with rfl | rfl | rfl | rfl | rfl | rfl
  · exact flow_5 h mode l hl
  · exact flow_6 h mode l hl
  · exact flow_7 h mode l hl
  · exact flow_8 h mode l hl
  · exact flow_9 h mode l hl
  · exact flow_10 h mode l hl
set_option maxHeartbeats 1000000 in
set_option maxRecDepth 100000 in
theorem operate_imm {B : Nat} {w0 w : World} {b g : Nat} {m : Ms} (h : St B w0 b g m w) (kind mode : Int) (l : List UInt8) (hl : m.cy.length < 800000) (hm : mode = 2) :
    Calls Tryd.prog 42 #[.pointer (some ⟨b, 0, none⟩), .int .i64 kind, .int .i64 mode, .string ⟨l.toArray⟩] w fun e w' => e = .returned (.tuple #[]) ∧ St B w0 b g (operF kind mode l m) w' := by
  subst hm
  have hA := h.cok
  have p1 := wrap_u16 (m.c.pc + 1)
  have p2 := wrap_u16 (m.c.pc + 2)
  have o1 := u16_ok (m.c.pc + 1)
  have o2 := u16_ok (m.c.pc + 2)
  have hz := Ms.look_ok h.byt (u16 (m.c.pc + 1))
  obtain ⟨cap, cv, hc, hf, _, _⟩ := h.open_
  unfold Cp.ok at hA
  go_enter Tryd.func42, Tryd.ntmps42
  go_wp2_with fail
  refine (read_c h (u16 (m.c.pc + 1)) (u16_ok _).1 (u16_ok _).2 (by first | omega | (simp; omega))).mono ?_
  rintro e w1 ⟨rfl, s1⟩
  obtain ⟨cap1, cv1, s1c, s1f, _, _⟩ := s1.open_
  go_wp2_with fail
  refine (do_c s1 l (m.look (u16 (m.c.pc + 1))) hz).mono ?_
  rintro e w2 ⟨rfl, s2⟩
  have S2 := Lib.hid s2
  clear s2
  go_wp2
  go_returns
  exact ⟨rfl, S2.out⟩
set_option maxHeartbeats 1000000 in
set_option maxRecDepth 100000 in
theorem operate_2 {B : Nat} {w0 w : World} {b g : Nat} {m : Ms} (h : St B w0 b g m w) (kind mode : Int) (hk : kind = 2) (l : List UInt8) (hl : m.cy.length < 800000) (hm : mode = 3 ∨ mode = 4 ∨ mode = 5 ∨ mode = 6 ∨ mode = 7 ∨ mode = 8 ∨ mode = 10 ∨ mode = 11) :
    Calls Tryd.prog 42 #[.pointer (some ⟨b, 0, none⟩), .int .i64 kind, .int .i64 mode, .string ⟨l.toArray⟩] w fun e w' => e = .returned (.tuple #[]) ∧ St B w0 b g (operF kind mode l m) w' := by
  subst hk
  have km : ¬ mode = 2 := by omega
  have HF : Hid (operF 2 mode l m = ((placeF mode 2 m).2.read (placeF mode 2 m).1).do_ l ((placeF mode 2 m).2.look (placeF mode 2 m).1)) := by simp only [Hid, operF, if_neg km, if_true]
  go_enter Tryd.func42, Tryd.ntmps42
  go_wp2_with fail
  refine (place_c h mode 2 hm (by omega)).mono ?_
  rintro e w1 ⟨rfl, s1⟩
  have p1 := place_len mode 2 m
  have p2 := place_ok h.byt h.cok mode 2 hm
  have p3 := place_cpu mode 2 m
  generalize hq : placeF mode 2 m = q at *

  clear hq
  obtain ⟨e1, m1⟩ := q
  simp only [] at s1 p1 p2 p3
  have hb := Ms.look_ok s1.byt e1
  obtain ⟨cap1, cv1, s1c, s1f, _, _⟩ := s1.open_
  go_wp2_with fail
  refine (read_c s1 e1 p2.1 p2.2 (by omega)).mono ?_
  rintro e w2 ⟨rfl, s2⟩
  obtain ⟨cap2, cv2, s2c, s2f, _, _⟩ := s2.open_
  go_wp2_with fail
  refine (do_c s2 l (m1.look e1) hb).mono ?_
  rintro e w3 ⟨rfl, s3⟩
  have S3 := Lib.hid s3
  clear s3
  go_wp2
  go_returns
  rw [HF.out]
  exact ⟨rfl, S3.out⟩
set_option maxHeartbeats 1000000 in
set_option maxRecDepth 100000 in
theorem operate_4 {B : Nat} {w0 w : World} {b g : Nat} {m : Ms} (h : St B w0 b g m w) (kind mode : Int) (hk : kind = 4) (l : List UInt8) (hl : m.cy.length < 800000) (hm : mode = 3 ∨ mode = 4 ∨ mode = 5 ∨ mode = 6 ∨ mode = 7 ∨ mode = 8 ∨ mode = 10 ∨ mode = 11) :
    Calls Tryd.prog 42 #[.pointer (some ⟨b, 0, none⟩), .int .i64 kind, .int .i64 mode, .string ⟨l.toArray⟩] w fun e w' => e = .returned (.tuple #[]) ∧ St B w0 b g (operF kind mode l m) w' := by
  subst hk
  have km : ¬ mode = 2 := by omega
  have HF : Hid (operF 4 mode l m = modF l (placeF mode 4 m).1 (placeF mode 4 m).2) := by simp [Hid, operF, if_neg km]
  go_enter Tryd.func42, Tryd.ntmps42
  go_wp2_with fail
  refine (place_c h mode 4 hm (by omega)).mono ?_
  rintro e w1 ⟨rfl, s1⟩
  have p1 := place_len mode 4 m
  have p2 := place_ok h.byt h.cok mode 4 hm
  have p3 := place_cpu mode 4 m
  generalize hq : placeF mode 4 m = q at *

  clear hq
  obtain ⟨e1, m1⟩ := q
  simp only [] at s1 p1 p2 p3
  have hb := Ms.look_ok s1.byt e1
  obtain ⟨cap1, cv1, s1c, s1f, _, _⟩ := s1.open_
  clear p3
  go_wp2_with fail
  refine (read_c s1 e1 p2.1 p2.2 (by omega)).mono ?_
  rintro e w2 ⟨rfl, s2⟩
  obtain ⟨cap2, cv2, s2c, s2f, _, _⟩ := s2.open_
  go_wp2_with fail
  refine (write_c s2 e1 (m1.look e1) p2.1 p2.2 hb (by simp; omega)).mono ?_
  rintro e w3 ⟨rfl, s3⟩
  obtain ⟨cap3, cv3, s3c, s3f, _, _⟩ := s3.open_
  go_wp2_with fail
  refine (do_c s3 l (m1.look e1) hb).mono ?_
  rintro e w4 ⟨rfl, s4⟩
  have hd := doF_ok l (m1.look e1) m1.c hb s1.cok
  go_wp2_with fail
  refine (write_c s4 e1 (doF l (m1.look e1) m1.c).1 p2.1 p2.2 hd (by simp; omega)).mono ?_
  rintro e w5 ⟨rfl, s5⟩
  have S5 := Lib.hid s5
  clear s5
  go_wp2
  go_returns
  rw [HF.out]
  exact ⟨rfl, S5.out⟩
set_option maxHeartbeats 1000000 in
set_option maxRecDepth 100000 in
theorem operate_STA {B : Nat} {w0 w : World} {b g : Nat} {m : Ms} (h : St B w0 b g m w) (mode : Int) (hl : m.cy.length < 800000) (hm : mode = 3 ∨ mode = 4 ∨ mode = 5 ∨ mode = 6 ∨ mode = 7 ∨ mode = 8 ∨ mode = 10 ∨ mode = 11) :
    Calls Tryd.prog 42 #[.pointer (some ⟨b, 0, none⟩), .int .i64 3, .int .i64 mode, .string ⟨#[83, 84, 65]⟩] w fun e w' => e = .returned (.tuple #[]) ∧ St B w0 b g (operF 3 mode [83, 84, 65] m) w' := by
  have km : ¬ mode = 2 := by omega
  have HF : Hid (operF 3 mode [83, 84, 65] m = (placeF mode 3 m).2.write (placeF mode 3 m).1 m.c.a) := by simp only [Hid, operF, if_neg km, if_true]; rfl
  have hA := h.cok
  have hv : 0 ≤ m.c.a ∧ m.c.a < 256 := by unfold Cp.ok at hA; omega
  go_enter Tryd.func42, Tryd.ntmps42
  go_wp2_with fail
  refine (place_c h mode 3 hm (by omega)).mono ?_
  rintro e w1 ⟨rfl, s1⟩
  have p1 := place_len mode 3 m
  have p2 := place_ok h.byt h.cok mode 3 hm
  have p3 := place_cpu mode 3 m
  generalize hq : placeF mode 3 m = q at *

  clear hq
  obtain ⟨e1, m1⟩ := q
  simp only [] at s1 p1 p2 p3
  have hb := Ms.look_ok s1.byt e1
  obtain ⟨cap1, cv1, s1c, s1f, _, _⟩ := s1.open_
  rw [p3] at s1c
  go_wp2_with fail
  refine (register_A _ _).mono ?_
  rintro e w2 ⟨rfl, rfl⟩
  go_wp2_with fail
  refine (write_c s1 e1 m.c.a p2.1 p2.2 hv (by omega)).mono ?_
  rintro e w3 ⟨rfl, s3⟩
  have S3 := Lib.hid s3
  clear s3
  go_wp2
  go_returns
  rw [HF.out]
  exact ⟨rfl, S3.out⟩
set_option maxHeartbeats 1000000 in
set_option maxRecDepth 100000 in
theorem operate_STX {B : Nat} {w0 w : World} {b g : Nat} {m : Ms} (h : St B w0 b g m w) (mode : Int) (hl : m.cy.length < 800000) (hm : mode = 3 ∨ mode = 4 ∨ mode = 5 ∨ mode = 6 ∨ mode = 7 ∨ mode = 8 ∨ mode = 10 ∨ mode = 11) :
    Calls Tryd.prog 42 #[.pointer (some ⟨b, 0, none⟩), .int .i64 3, .int .i64 mode, .string ⟨#[83, 84, 88]⟩] w fun e w' => e = .returned (.tuple #[]) ∧ St B w0 b g (operF 3 mode [83, 84, 88] m) w' := by
  have km : ¬ mode = 2 := by omega
  have HF : Hid (operF 3 mode [83, 84, 88] m = (placeF mode 3 m).2.write (placeF mode 3 m).1 m.c.x) := by simp only [Hid, operF, if_neg km, if_true]; rfl
  have hA := h.cok
  have hv : 0 ≤ m.c.x ∧ m.c.x < 256 := by unfold Cp.ok at hA; omega
  go_enter Tryd.func42, Tryd.ntmps42
  go_wp2_with fail
  refine (place_c h mode 3 hm (by omega)).mono ?_
  rintro e w1 ⟨rfl, s1⟩
  have p1 := place_len mode 3 m
  have p2 := place_ok h.byt h.cok mode 3 hm
  have p3 := place_cpu mode 3 m
  generalize hq : placeF mode 3 m = q at *

  clear hq
  obtain ⟨e1, m1⟩ := q
  simp only [] at s1 p1 p2 p3
  have hb := Ms.look_ok s1.byt e1
  obtain ⟨cap1, cv1, s1c, s1f, _, _⟩ := s1.open_
  rw [p3] at s1c
  go_wp2_with fail
  refine (register_X _ _).mono ?_
  rintro e w2 ⟨rfl, rfl⟩
  go_wp2_with fail
  refine (write_c s1 e1 m.c.x p2.1 p2.2 hv (by omega)).mono ?_
  rintro e w3 ⟨rfl, s3⟩
  have S3 := Lib.hid s3
  clear s3
  go_wp2
  go_returns
  rw [HF.out]
  exact ⟨rfl, S3.out⟩
set_option maxHeartbeats 1000000 in
set_option maxRecDepth 100000 in
theorem operate_STY {B : Nat} {w0 w : World} {b g : Nat} {m : Ms} (h : St B w0 b g m w) (mode : Int) (hl : m.cy.length < 800000) (hm : mode = 3 ∨ mode = 4 ∨ mode = 5 ∨ mode = 6 ∨ mode = 7 ∨ mode = 8 ∨ mode = 10 ∨ mode = 11) :
    Calls Tryd.prog 42 #[.pointer (some ⟨b, 0, none⟩), .int .i64 3, .int .i64 mode, .string ⟨#[83, 84, 89]⟩] w fun e w' => e = .returned (.tuple #[]) ∧ St B w0 b g (operF 3 mode [83, 84, 89] m) w' := by
  have km : ¬ mode = 2 := by omega
  have HF : Hid (operF 3 mode [83, 84, 89] m = (placeF mode 3 m).2.write (placeF mode 3 m).1 m.c.y) := by simp only [Hid, operF, if_neg km, if_true]; rfl
  have hA := h.cok
  have hv : 0 ≤ m.c.y ∧ m.c.y < 256 := by unfold Cp.ok at hA; omega
  go_enter Tryd.func42, Tryd.ntmps42
  go_wp2_with fail
  refine (place_c h mode 3 hm (by omega)).mono ?_
  rintro e w1 ⟨rfl, s1⟩
  have p1 := place_len mode 3 m
  have p2 := place_ok h.byt h.cok mode 3 hm
  have p3 := place_cpu mode 3 m
  generalize hq : placeF mode 3 m = q at *

  clear hq
  obtain ⟨e1, m1⟩ := q
  simp only [] at s1 p1 p2 p3
  have hb := Ms.look_ok s1.byt e1
  obtain ⟨cap1, cv1, s1c, s1f, _, _⟩ := s1.open_
  rw [p3] at s1c
  go_wp2_with fail
  refine (register_Y _ _).mono ?_
  rintro e w2 ⟨rfl, rfl⟩
  go_wp2_with fail
  refine (write_c s1 e1 m.c.y p2.1 p2.2 hv (by omega)).mono ?_
  rintro e w3 ⟨rfl, s3⟩
  have S3 := Lib.hid s3
  clear s3
  go_wp2
  go_returns
  rw [HF.out]
  exact ⟨rfl, S3.out⟩
end Go.Proofs.YtemahcjglmhefaaDoor
