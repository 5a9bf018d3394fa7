/- The machine's methods: the ways of PC, the stack. No condition. The machine's methods: what the stack gives and takes, operands, a step. No condition. -/
import Derived.Test.YtemahcjglmhefaaGreatDoorKPlace
import Derived.Test.YtemahcjglmhefaaGreatDoorKMem
import Derived.Test.YtemahcjglmhefaaGreatDoorKOp
namespace Go.Proofs.YtemahcjglmhefaaGreatDoor
set_option linter.unusedVariables false
set_option linter.unusedSimpArgs false
open Go.RowKit
attribute [local irreducible] World.setCell

@[go_sem] theorem push_look_pc (m : Ms) (l : List Int) : (m.push l).c.pc = m.c.pc := by
  induction l generalizing m with
  | nil => rfl
  | cons v l ih => simp only [Ms.push, List.foldl_cons] at ih ⊢; rw [ih]; rfl
@[go_sem] theorem push_f (m : Ms) (l : List Int) : (m.push l).c.f = m.c.f := by
  induction l generalizing m with
  | nil => rfl
  | cons v l ih => simp only [Ms.push, List.foldl_cons] at ih ⊢; rw [ih]; rfl
theorem stk_ok {s : Int} (h : 0 ≤ s ∧ s < 256) : 0 ≤ stk s ∧ stk s < 65536 := by unfold stk; omega
theorem byt1 {a : Int} (h : 0 ≤ a ∧ a < 256) : Byt [a] := by intro x hx; simp at hx; subst hx; exact h
theorem byt2 {a b : Int} (h : 0 ≤ a ∧ a < 256) (k : 0 ≤ b ∧ b < 256) : Byt [a, b] := by intro x hx; simp at hx; rcases hx with rfl | rfl <;> assumption
theorem byt3 {a b c : Int} (h : 0 ≤ a ∧ a < 256) (k : 0 ≤ b ∧ b < 256) (j : 0 ≤ c ∧ c < 256) : Byt [a, b, c] := by intro x hx; simp at hx; rcases hx with rfl | rfl | rfl <;> assumption
/-- The bytes of a push lie in a new block. -/
theorem pushNew {B : Nat} {w0 w : World} {b g : Nat} {m : Ms} (h : St B w0 b g m w) (xs : List Int) (hx : Byt xs) (hl : m.cy.length < 990000) (hn : xs.length ≤ 3) (cap : Nat) (cs : Array Value) (hcs : cs = (nums .u8 xs).toArray) (n : Nat) (he : n = xs.length) :
    Calls Tryz.prog 45 #[.pointer (some ⟨b, 0, none⟩), .slice (some ⟨w.heap.size, 0, none⟩) n cap] (w.alloc (.cells cs 5)) fun e w' => e = .returned (.tuple #[]) ∧ St B w0 b g (m.push xs) w' := by
  subst hcs he
  exact push_c (h.later (Dn.al _ _)) w.heap.size cap xs hx (Bk.new _ _ _) (Nat.ne_of_gt h.lt) (Nat.ne_of_gt h.ltg.2.1) (by omega) hn
set_option maxHeartbeats 1000000 in
set_option maxRecDepth 100000 in
theorem flow_5 {B : Nat} {w0 w : World} {b g : Nat} {m : Ms} (h : St B w0 b g m w) (mode : Int) (l : List UInt8) (hl : m.cy.length < 900000) :
    Calls Tryz.prog 60 #[.pointer (some ⟨b, 0, none⟩), .int .i64 5, .int .i64 mode, .string ⟨l.toArray⟩] w fun e w' => e = .returned (.tuple #[]) ∧ St B w0 b g (branchF l m) w' := by
  have hA := h.cok
  have p1 := wrap_u16 (m.c.pc + 1)
  have p2 := wrap_u16 (m.c.pc + 2)
  have o1 := u16_ok (m.c.pc + 1)
  have o2 := u16_ok (m.c.pc + 2)
  have hz := Ms.look_ok h.byt (u16 (m.c.pc + 1))
  obtain ⟨cap, cv, hc, hf, _, _⟩ := h.open_
  unfold Cp.ok at hA
  go_enter Tryz.func60, Tryz.ntmps60
  go_wp2_with fail
  go_quiet (fail)
  go_wp2_with fail
  refine (branch_c (h.drewN _) l hl).mono ?_
  rintro e w1 ⟨rfl, s1⟩
  have S1 := Lib.hid s1
  clear s1
  go_wp2
  go_returns
  exact ⟨rfl, S1.out⟩
set_option maxHeartbeats 1000000 in
set_option maxRecDepth 100000 in
theorem flow_6 {B : Nat} {w0 w : World} {b g : Nat} {m : Ms} (h : St B w0 b g m w) (mode : Int) (l : List UInt8) (hl : m.cy.length < 900000) :
    Calls Tryz.prog 60 #[.pointer (some ⟨b, 0, none⟩), .int .i64 6, .int .i64 mode, .string ⟨l.toArray⟩] w fun e w' => e = .returned (.tuple #[]) ∧ St B w0 b g (jumpF mode m) w' := by
  have hA := h.cok
  have p1 := wrap_u16 (m.c.pc + 1)
  have p2 := wrap_u16 (m.c.pc + 2)
  have o1 := u16_ok (m.c.pc + 1)
  have o2 := u16_ok (m.c.pc + 2)
  have hz := Ms.look_ok h.byt (u16 (m.c.pc + 1))
  obtain ⟨cap, cv, hc, hf, _, _⟩ := h.open_
  unfold Cp.ok at hA
  have ob := word_ok h.byt (u16 (m.c.pc + 1)) (u16 (m.c.pc + 2))
  have hz2 := Ms.look_ok h.byt (u16 (m.c.pc + 2))
  have q4 : bits BinOp.or .u16 (bits BinOp.and .u16 (m.word (u16 (m.c.pc + 1)) (u16 (m.c.pc + 2))) 65280) (bits BinOp.and .u16 (IntKind.u16.wrap ((m.word (u16 (m.c.pc + 1)) (u16 (m.c.pc + 2))) + 1)) 255) = pageOf (m.word (u16 (m.c.pc + 1)) (u16 (m.c.pc + 2))) ((m.word (u16 (m.c.pc + 1)) (u16 (m.c.pc + 2))) + 1) := by
    rw [page_eq _ _ ob.1 ob.2 (by rw [wrap_u16]; exact (u16_ok _).1) (by rw [wrap_u16]; exact (u16_ok _).2), wrap_u16]
    unfold pageOf u16
    omega
  have o4 := page_ok (m.word (u16 (m.c.pc + 1)) (u16 (m.c.pc + 2))) ((m.word (u16 (m.c.pc + 1)) (u16 (m.c.pc + 2))) + 1) ob.1 ob.2
  have o5 := word_ok h.byt (m.word (u16 (m.c.pc + 1)) (u16 (m.c.pc + 2))) (pageOf (m.word (u16 (m.c.pc + 1)) (u16 (m.c.pc + 2))) ((m.word (u16 (m.c.pc + 1)) (u16 (m.c.pc + 2))) + 1))
  by_cases km : mode = 9
  · subst km
    have HJ : Hid (jumpF 9 m = _) := if_pos rfl
    go_enter Tryz.func60, Tryz.ntmps60
    go_wp2_with fail
    go_quiet (fail)
    go_wp2_with fail
    refine (readTwo_c (h.drewN _) (u16 (m.c.pc + 1)) (u16 (m.c.pc + 2)) (u16_ok _).1 (u16_ok _).2 (u16_ok _).1 (u16_ok _).2 (by first | omega | (simp; omega))).mono ?_
    rintro e w1 ⟨rfl, s1⟩
    obtain ⟨cap1, cv1, s1c, s1f, _, _⟩ := s1.open_
    have s2 := s1.setPC' ob
    have S2 := Lib.hid s2
    go_wp2_with fail
    refine (readTwo_c s2 (m.word (u16 (m.c.pc + 1)) (u16 (m.c.pc + 2))) (pageOf (m.word (u16 (m.c.pc + 1)) (u16 (m.c.pc + 2))) ((m.word (u16 (m.c.pc + 1)) (u16 (m.c.pc + 2))) + 1)) ob.1 ob.2 o4.1 o4.2 (by first | omega | (simp; omega))).mono ?_
    rintro e w3 ⟨rfl, s3⟩
    obtain ⟨cap3, cv3, s3c, s3f, _, _⟩ := s3.open_
    have s4 := s3.setPC' o5
    have S4 := Lib.hid s4
    clear s2 s4
    go_wp2
    go_returns
    rw [HJ.out]
    exact ⟨rfl, S4.out⟩
  · have HJ : Hid (jumpF mode m = _) := if_neg km
    go_enter Tryz.func60, Tryz.ntmps60
    go_wp2_with fail
    go_quiet (fail)
    go_wp2_with fail
    refine (readTwo_c (h.drewN _) (u16 (m.c.pc + 1)) (u16 (m.c.pc + 2)) (u16_ok _).1 (u16_ok _).2 (u16_ok _).1 (u16_ok _).2 (by first | omega | (simp; omega))).mono ?_
    rintro e w1 ⟨rfl, s1⟩
    obtain ⟨cap1, cv1, s1c, s1f, _, _⟩ := s1.open_
    have s2 := s1.setPC' ob
    have S2 := Lib.hid s2
    clear s2
    go_wp2
    go_returns
    rw [HJ.out]
    exact ⟨rfl, S2.out⟩
set_option maxHeartbeats 1000000 in
set_option maxRecDepth 100000 in
theorem flow_7 {B : Nat} {w0 w : World} {b g : Nat} {m : Ms} (h : St B w0 b g m w) (mode : Int) (l : List UInt8) (hl : m.cy.length < 900000) :
    Calls Tryz.prog 60 #[.pointer (some ⟨b, 0, none⟩), .int .i64 7, .int .i64 mode, .string ⟨l.toArray⟩] w fun e w' => e = .returned (.tuple #[]) ∧ St B w0 b g (subF m) w' := by
  have hA := h.cok
  have p1 := wrap_u16 (m.c.pc + 1)
  have p2 := wrap_u16 (m.c.pc + 2)
  have o1 := u16_ok (m.c.pc + 1)
  have o2 := u16_ok (m.c.pc + 2)
  have hz := Ms.look_ok h.byt (u16 (m.c.pc + 1))
  obtain ⟨cap, cv, hc, hf, _, _⟩ := h.open_
  unfold Cp.ok at hA
  have hs : 0 ≤ m.c.s ∧ m.c.s < 256 := by omega
  have ks := stk_ok hs
  have u1 : u16 (m.c.pc + 2) % 256 = u8 (m.c.pc + 2) := by unfold u16 u8; omega
  have u2 : 0 ≤ u16 (m.c.pc + 2) / 256 ∧ u16 (m.c.pc + 2) / 256 < 256 := by omega
  have u3 := u8_ok (m.c.pc + 2)
  have a1 : 256 + m.c.s = stk m.c.s := rfl
  have v1 := u8_ok (m.c.s + 1)
  have v2 := u8_ok (m.c.s + 2)
  have v3 := u8_ok (m.c.s + 3)
  have b1 : (m.c.s + 1) % 256 = u8 (m.c.s + 1) := rfl
  have b2 : (m.c.s + 2) % 256 = u8 (m.c.s + 2) := rfl
  have b3 : (m.c.s + 3) % 256 = u8 (m.c.s + 3) := rfl
  have k1 := stk_ok v1
  have k2 := stk_ok v2
  have k3 := stk_ok v3
  have c1 : 256 + u8 (m.c.s + 1) = stk (u8 (m.c.s + 1)) := rfl
  have c2 : 256 + u8 (m.c.s + 2) = stk (u8 (m.c.s + 2)) := rfl
  have c3 : 256 + u8 (m.c.s + 3) = stk (u8 (m.c.s + 3)) := rfl
  have hlk := Ms.look_ok (m := subPush m)
  go_enter Tryz.func60, Tryz.ntmps60
  go_wp2_with fail
  go_quiet (fail)
  go_wp2_with fail
  refine (read_c (h.drewN _) (u16 (m.c.pc + 1)) (u16_ok _).1 (u16_ok _).2 (by first | omega | (simp; omega))).mono ?_
  rintro e w1 ⟨rfl, s1⟩
  obtain ⟨cap1, cv1, s1c, s1f, _, _⟩ := s1.open_
  go_wp2_with fail
  refine (stack_c m.c.s hs.1 hs.2 _).mono ?_
  rintro e wq ⟨rfl, rfl⟩
  go_wp2_with fail
  refine (read_c s1 (stk m.c.s) ks.1 ks.2 (by first | omega | (simp; omega))).mono ?_
  rintro e w2 ⟨rfl, s2⟩
  obtain ⟨cap2, cv2, s2c, s2f, _, _⟩ := s2.open_
  go_wp2_with fail
  refine (pushNew s2 [u16 (m.c.pc + 2) / 256, u8 (m.c.pc + 2)] (byt2 u2 u3) (by first | omega | (simp; omega)) (by simp) _ _ rfl _ rfl).mono ?_
  rintro e w3 ⟨rfl, s3⟩
  change St B w0 b g (subPush m) w3 at s3
  obtain ⟨cap3, cv3, s3c, s3f, _, _⟩ := s3.open_
  have hlen : (subPush m).cy.length = m.cy.length + 4 := by simp [subPush]
  have hpc : (subPush m).c.pc = m.c.pc := push_look_pc _ _
  have hz3 := hlk s3.byt (u16 (m.c.pc + 2))
  go_wp2_with fail
  refine (read_c s3 (u16 (m.c.pc + 2)) o2.1 o2.2 (by omega)).mono ?_
  rintro e w4 ⟨rfl, s4⟩
  obtain ⟨cap4, cv4, s4c, s4f, _, _⟩ := s4.open_
  go_wp2_with fail
  refine (wordOf_c (m.look (u16 (m.c.pc + 1))) ((subPush m).look (u16 (m.c.pc + 2))) hz.1 hz.2 hz3.1 hz3.2 _).mono ?_
  rintro e w5 ⟨rfl, rfl⟩
  have s5 := s4.setPC' (v := (subPush m).look (u16 (m.c.pc + 2)) * 256 + m.look (u16 (m.c.pc + 1))) (by omega)
  have S5 := Lib.hid s5
  clear s5
  go_wp2
  go_returns
  exact ⟨rfl, S5.out⟩
set_option maxHeartbeats 1000000 in
set_option maxRecDepth 100000 in
theorem flow_8 {B : Nat} {w0 w : World} {b g : Nat} {m : Ms} (h : St B w0 b g m w) (mode : Int) (l : List UInt8) (hl : m.cy.length < 900000) :
    Calls Tryz.prog 60 #[.pointer (some ⟨b, 0, none⟩), .int .i64 8, .int .i64 mode, .string ⟨l.toArray⟩] w fun e w' => e = .returned (.tuple #[]) ∧ St B w0 b g (backF m) w' := by
  have hA := h.cok
  have p1 := wrap_u16 (m.c.pc + 1)
  have p2 := wrap_u16 (m.c.pc + 2)
  have o1 := u16_ok (m.c.pc + 1)
  have o2 := u16_ok (m.c.pc + 2)
  have hz := Ms.look_ok h.byt (u16 (m.c.pc + 1))
  obtain ⟨cap, cv, hc, hf, _, _⟩ := h.open_
  unfold Cp.ok at hA
  have hs : 0 ≤ m.c.s ∧ m.c.s < 256 := by omega
  have ks := stk_ok hs
  have u1 : u16 (m.c.pc + 2) % 256 = u8 (m.c.pc + 2) := by unfold u16 u8; omega
  have u2 : 0 ≤ u16 (m.c.pc + 2) / 256 ∧ u16 (m.c.pc + 2) / 256 < 256 := by omega
  have u3 := u8_ok (m.c.pc + 2)
  have a1 : 256 + m.c.s = stk m.c.s := rfl
  have v1 := u8_ok (m.c.s + 1)
  have v2 := u8_ok (m.c.s + 2)
  have v3 := u8_ok (m.c.s + 3)
  have b1 : (m.c.s + 1) % 256 = u8 (m.c.s + 1) := rfl
  have b2 : (m.c.s + 2) % 256 = u8 (m.c.s + 2) := rfl
  have b3 : (m.c.s + 3) % 256 = u8 (m.c.s + 3) := rfl
  have k1 := stk_ok v1
  have k2 := stk_ok v2
  have k3 := stk_ok v3
  have c1 : 256 + u8 (m.c.s + 1) = stk (u8 (m.c.s + 1)) := rfl
  have c2 : 256 + u8 (m.c.s + 2) = stk (u8 (m.c.s + 2)) := rfl
  have c3 : 256 + u8 (m.c.s + 3) = stk (u8 (m.c.s + 3)) := rfl
  have ob := word_ok h.byt (stk (u8 (m.c.s + 1))) (stk (u8 (m.c.s + 2)))
  have q3 := wrap_u16 ((m.word (stk (u8 (m.c.s + 1))) (stk (u8 (m.c.s + 2)))) + 1)
  have o3 := u16_ok ((m.word (stk (u8 (m.c.s + 1))) (stk (u8 (m.c.s + 2)))) + 1)
  go_enter Tryz.func60, Tryz.ntmps60
  go_wp2_with fail
  go_quiet (fail)
  go_wp2_with fail
  refine (read_c (h.drewN _) (u16 (m.c.pc + 1)) (u16_ok _).1 (u16_ok _).2 (by first | omega | (simp; omega))).mono ?_
  rintro e w1 ⟨rfl, s1⟩
  obtain ⟨cap1, cv1, s1c, s1f, _, _⟩ := s1.open_
  go_wp2_with fail
  refine (stack_c m.c.s hs.1 hs.2 _).mono ?_
  rintro e wq ⟨rfl, rfl⟩
  go_wp2_with fail
  refine (read_c s1 (stk m.c.s) ks.1 ks.2 (by first | omega | (simp; omega))).mono ?_
  rintro e w2 ⟨rfl, s2⟩
  obtain ⟨cap2, cv2, s2c, s2f, _, _⟩ := s2.open_
  go_wp2_with fail
  refine (stack_c (u8 (m.c.s + 1)) v1.1 v1.2 _).mono ?_
  rintro e wq ⟨rfl, rfl⟩
  go_wp2_with fail
  refine (stack_c (u8 (m.c.s + 2)) v2.1 v2.2 _).mono ?_
  rintro e wq ⟨rfl, rfl⟩
  go_wp2_with fail
  refine (readTwo_c s2 (stk (u8 (m.c.s + 1))) (stk (u8 (m.c.s + 2))) k1.1 k1.2 k2.1 k2.2 (by first | omega | (simp; omega))).mono ?_
  rintro e w3 ⟨rfl, s3⟩
  obtain ⟨cap3, cv3, s3c, s3f, _, _⟩ := s3.open_
  go_wp2_with fail
  refine (read_c s3 (m.word (stk (u8 (m.c.s + 1))) (stk (u8 (m.c.s + 2)))) ob.1 ob.2 (by first | omega | (simp; omega))).mono ?_
  rintro e w4 ⟨rfl, s4⟩
  obtain ⟨cap4, cv4, s4c, s4f, _, _⟩ := s4.open_
  have s5 := (s4.setPC' o3).setS' v2
  have S5 := Lib.hid s5
  clear s5
  go_wp2
  go_returns
  exact ⟨rfl, S5.out⟩
set_option maxHeartbeats 1000000 in
set_option maxRecDepth 100000 in
theorem flow_9 {B : Nat} {w0 w : World} {b g : Nat} {m : Ms} (h : St B w0 b g m w) (mode : Int) (l : List UInt8) (hl : m.cy.length < 900000) :
    Calls Tryz.prog 60 #[.pointer (some ⟨b, 0, none⟩), .int .i64 9, .int .i64 mode, .string ⟨l.toArray⟩] w fun e w' => e = .returned (.tuple #[]) ∧ St B w0 b g (rtiF m) w' := by
  have hA := h.cok
  have p1 := wrap_u16 (m.c.pc + 1)
  have p2 := wrap_u16 (m.c.pc + 2)
  have o1 := u16_ok (m.c.pc + 1)
  have o2 := u16_ok (m.c.pc + 2)
  have hz := Ms.look_ok h.byt (u16 (m.c.pc + 1))
  obtain ⟨cap, cv, hc, hf, _, _⟩ := h.open_
  unfold Cp.ok at hA
  have hs : 0 ≤ m.c.s ∧ m.c.s < 256 := by omega
  have ks := stk_ok hs
  have u1 : u16 (m.c.pc + 2) % 256 = u8 (m.c.pc + 2) := by unfold u16 u8; omega
  have u2 : 0 ≤ u16 (m.c.pc + 2) / 256 ∧ u16 (m.c.pc + 2) / 256 < 256 := by omega
  have u3 := u8_ok (m.c.pc + 2)
  have a1 : 256 + m.c.s = stk m.c.s := rfl
  have v1 := u8_ok (m.c.s + 1)
  have v2 := u8_ok (m.c.s + 2)
  have v3 := u8_ok (m.c.s + 3)
  have b1 : (m.c.s + 1) % 256 = u8 (m.c.s + 1) := rfl
  have b2 : (m.c.s + 2) % 256 = u8 (m.c.s + 2) := rfl
  have b3 : (m.c.s + 3) % 256 = u8 (m.c.s + 3) := rfl
  have k1 := stk_ok v1
  have k2 := stk_ok v2
  have k3 := stk_ok v3
  have c1 : 256 + u8 (m.c.s + 1) = stk (u8 (m.c.s + 1)) := rfl
  have c2 : 256 + u8 (m.c.s + 2) = stk (u8 (m.c.s + 2)) := rfl
  have c3 : 256 + u8 (m.c.s + 3) = stk (u8 (m.c.s + 3)) := rfl
  have ob := word_ok h.byt (stk (u8 (m.c.s + 2))) (stk (u8 (m.c.s + 3)))
  have hb := Ms.look_ok h.byt (stk (u8 (m.c.s + 1)))
  go_enter Tryz.func60, Tryz.ntmps60
  go_wp2_with fail
  go_quiet (fail)
  go_wp2_with fail
  refine (read_c (h.drewN _) (u16 (m.c.pc + 1)) (u16_ok _).1 (u16_ok _).2 (by first | omega | (simp; omega))).mono ?_
  rintro e w1 ⟨rfl, s1⟩
  obtain ⟨cap1, cv1, s1c, s1f, _, _⟩ := s1.open_
  go_wp2_with fail
  refine (stack_c m.c.s hs.1 hs.2 _).mono ?_
  rintro e wq ⟨rfl, rfl⟩
  go_wp2_with fail
  refine (read_c s1 (stk m.c.s) ks.1 ks.2 (by first | omega | (simp; omega))).mono ?_
  rintro e w2 ⟨rfl, s2⟩
  obtain ⟨cap2, cv2, s2c, s2f, _, _⟩ := s2.open_
  go_wp2_with fail
  refine (stack_c (u8 (m.c.s + 1)) v1.1 v1.2 _).mono ?_
  rintro e wq ⟨rfl, rfl⟩
  go_wp2_with fail
  refine (read_c s2 (stk (u8 (m.c.s + 1))) k1.1 k1.2 (by first | omega | (simp; omega))).mono ?_
  rintro e w3 ⟨rfl, s3⟩
  obtain ⟨cap3, cv3, s3c, s3f, _, _⟩ := s3.open_
  go_wp2_with fail
  refine (UnpackP_c (m.look (stk (u8 (m.c.s + 1)))) hb.1 hb.2 _).mono ?_
  rintro e w4 ⟨rfl, hb4⟩
  have s4 := s3.later hb4
  obtain ⟨cap4, cv4, s4c, s4f, _, _⟩ := s4.open_
  have s5 : St B w0 b g ((((m.read (u16 (m.c.pc + 1))).read (stk m.c.s)).read (stk (u8 (m.c.s + 1)))).setF (unpackF (m.look (stk (u8 (m.c.s + 1)))))) _ := s4.setF _ _ _ _ _ _
  have S5 := Lib.hid s5
  clear s5 s3 hb4
  go_wp2_with fail
  refine (stack_c (u8 (m.c.s + 2)) v2.1 v2.2 _).mono ?_
  rintro e wq ⟨rfl, rfl⟩
  go_wp2_with fail
  refine (stack_c (u8 (m.c.s + 3)) v3.1 v3.2 _).mono ?_
  rintro e wq ⟨rfl, rfl⟩
  go_wp2_with fail
  refine (readTwo_c S5.out (stk (u8 (m.c.s + 2))) (stk (u8 (m.c.s + 3))) k2.1 k2.2 k3.1 k3.2 (by first | omega | (simp; omega))).mono ?_
  rintro e w6 ⟨rfl, s6⟩
  obtain ⟨cap6, cv6, s6c, s6f, _, _⟩ := s6.open_
  have s7 := (s6.setPC' ob).setS' v3
  have S7 := Lib.hid s7
  clear s7
  go_wp2
  go_returns
  exact ⟨rfl, S7.out⟩
/-- Behind the vector's two reads: PC and I. -/
theorem St.vec {B : Nat} {w0 w : World} {b g : Nat} {m : Ms} {x y : Int} (h : St B w0 b g (m.read2 x y) w) (hb : Byt m.ram) : St B w0 b g (vecF m x y) ((w.setCell ⟨b, 4, none⟩ (.int .u16 (m.word x y))).setCell ⟨b, 8, none⟩ (.bool true)) :=
  (h.setPC' (word_ok hb _ _)).setFI true
set_option maxHeartbeats 1000000 in
set_option maxRecDepth 100000 in
theorem flow_10 {B : Nat} {w0 w : World} {b g : Nat} {m : Ms} (h : St B w0 b g m w) (mode : Int) (l : List UInt8) (hl : m.cy.length < 900000) :
    Calls Tryz.prog 60 #[.pointer (some ⟨b, 0, none⟩), .int .i64 10, .int .i64 mode, .string ⟨l.toArray⟩] w fun e w' => e = .returned (.tuple #[]) ∧ St B w0 b g (brkF m) w' := by
  have hA := h.cok
  have p1 := wrap_u16 (m.c.pc + 1)
  have p2 := wrap_u16 (m.c.pc + 2)
  have o1 := u16_ok (m.c.pc + 1)
  have o2 := u16_ok (m.c.pc + 2)
  have hz := Ms.look_ok h.byt (u16 (m.c.pc + 1))
  obtain ⟨cap, cv, hc, hf, _, _⟩ := h.open_
  unfold Cp.ok at hA
  have hs : 0 ≤ m.c.s ∧ m.c.s < 256 := by omega
  have ks := stk_ok hs
  have u1 : u16 (m.c.pc + 2) % 256 = u8 (m.c.pc + 2) := by unfold u16 u8; omega
  have u2 : 0 ≤ u16 (m.c.pc + 2) / 256 ∧ u16 (m.c.pc + 2) / 256 < 256 := by omega
  have u3 := u8_ok (m.c.pc + 2)
  have a1 : 256 + m.c.s = stk m.c.s := rfl
  have v1 := u8_ok (m.c.s + 1)
  have v2 := u8_ok (m.c.s + 2)
  have v3 := u8_ok (m.c.s + 3)
  have b1 : (m.c.s + 1) % 256 = u8 (m.c.s + 1) := rfl
  have b2 : (m.c.s + 2) % 256 = u8 (m.c.s + 2) := rfl
  have b3 : (m.c.s + 3) % 256 = u8 (m.c.s + 3) := rfl
  have k1 := stk_ok v1
  have k2 := stk_ok v2
  have k3 := stk_ok v3
  have c1 : 256 + u8 (m.c.s + 1) = stk (u8 (m.c.s + 1)) := rfl
  have c2 : 256 + u8 (m.c.s + 2) = stk (u8 (m.c.s + 2)) := rfl
  have c3 : 256 + u8 (m.c.s + 3) = stk (u8 (m.c.s + 3)) := rfl
  have hp := pack_ok m.c.f true
  go_enter Tryz.func60, Tryz.ntmps60
  go_wp2_with fail
  go_quiet (fail)
  go_wp2_with fail
  refine (read_c (h.drewN _) (u16 (m.c.pc + 1)) (u16_ok _).1 (u16_ok _).2 (by first | omega | (simp; omega))).mono ?_
  rintro e w1 ⟨rfl, s1⟩
  obtain ⟨cap1, cv1, s1c, s1f, _, _⟩ := s1.open_
  go_wp2_with fail
  refine (PackP_c m.c.f true _).mono ?_
  rintro e w2 ⟨rfl, hb2⟩
  have s2 := s1.later hb2
  go_wp2_with fail
  refine (pushNew s2 [u16 (m.c.pc + 2) / 256, u8 (m.c.pc + 2), packF m.c.f true] (byt3 u2 u3 hp) (by first | omega | (simp; omega)) (by simp) _ _ rfl _ rfl).mono ?_
  rintro e w3 ⟨rfl, s3⟩
  obtain ⟨cap3, cv3, s3c, s3f, _, _⟩ := s3.open_
  have hby := s3.byt
  have hlen : (((m.read (u16 (m.c.pc + 1))).push [u16 (m.c.pc + 2) / 256, u8 (m.c.pc + 2), packF m.c.f true])).cy.length = m.cy.length + 4 := by simp
  generalize hq : ((m.read (u16 (m.c.pc + 1))).push [u16 (m.c.pc + 2) / 256, u8 (m.c.pc + 2), packF m.c.f true]) = q at *
  have HQ := Lib.hid hq
  clear hq
  go_wp2_with fail
  refine (readTwo_c s3 65534 65535 (by omega) (by omega) (by omega) (by omega) (by omega)).mono ?_
  rintro e w4 ⟨rfl, s4⟩
  obtain ⟨cap4, cv4, s4c, s4f, _, _⟩ := s4.open_
  have s5 := s4.vec hby
  have e5 : brkF m = vecF q 65534 65535 := by rw [← HQ.out]; rfl
  rw [← e5] at s5
  have S5 := Lib.hid s5
  clear s5 e5 HQ
  go_wp2
  go_returns
  exact ⟨rfl, S5.out⟩
end Go.Proofs.YtemahcjglmhefaaGreatDoor
namespace Go.Proofs.YtemahcjglmhefaaGreatDoor
set_option linter.unusedVariables false
set_option linter.unusedSimpArgs false
open Go.RowKit
attribute [local irreducible] World.setCell

set_option maxHeartbeats 1000000 in
set_option maxRecDepth 100000 in
theorem pull_c {B : Nat} {w0 w : World} {b g : Nat} {m : Ms} (h : St B w0 b g m w) (l : List UInt8) (hl : m.cy.length < 900000) :
    Calls Tryz.prog 59 #[.pointer (some ⟨b, 0, none⟩), .string ⟨l.toArray⟩] w fun e w' => e = .returned (.tuple #[]) ∧ St B w0 b g (pullF l m) w' := by
  have hA := h.cok
  have p1 := wrap_u16 (m.c.pc + 1)
  have p2 := wrap_u16 (m.c.pc + 2)
  have o1 := u16_ok (m.c.pc + 1)
  have o2 := u16_ok (m.c.pc + 2)
  have hz := Ms.look_ok h.byt (u16 (m.c.pc + 1))
  obtain ⟨cap, cv, hc, hf, _, _⟩ := h.open_
  unfold Cp.ok at hA
  have hs : 0 ≤ m.c.s ∧ m.c.s < 256 := by omega
  have ks := stk_ok hs
  have u1 : u16 (m.c.pc + 2) % 256 = u8 (m.c.pc + 2) := by unfold u16 u8; omega
  have u2 : 0 ≤ u16 (m.c.pc + 2) / 256 ∧ u16 (m.c.pc + 2) / 256 < 256 := by omega
  have u3 := u8_ok (m.c.pc + 2)
  have a1 : 256 + m.c.s = stk m.c.s := rfl
  have v1 := u8_ok (m.c.s + 1)
  have v2 := u8_ok (m.c.s + 2)
  have v3 := u8_ok (m.c.s + 3)
  have b1 : (m.c.s + 1) % 256 = u8 (m.c.s + 1) := rfl
  have b2 : (m.c.s + 2) % 256 = u8 (m.c.s + 2) := rfl
  have b3 : (m.c.s + 3) % 256 = u8 (m.c.s + 3) := rfl
  have k1 := stk_ok v1
  have k2 := stk_ok v2
  have k3 := stk_ok v3
  have c1 : 256 + u8 (m.c.s + 1) = stk (u8 (m.c.s + 1)) := rfl
  have c2 : 256 + u8 (m.c.s + 2) = stk (u8 (m.c.s + 2)) := rfl
  have c3 : 256 + u8 (m.c.s + 3) = stk (u8 (m.c.s + 3)) := rfl
  have hb := Ms.look_ok h.byt (stk (u8 (m.c.s + 1)))
  by_cases kl : l = [80, 76, 65]
  · subst kl
    go_enter Tryz.func59, Tryz.ntmps59
    go_wp2_with fail
    refine (read_c h (u16 (m.c.pc + 1)) (u16_ok _).1 (u16_ok _).2 (by first | omega | (simp; omega))).mono ?_
    rintro e w1 ⟨rfl, s1⟩
    obtain ⟨cap1, cv1, s1c, s1f, _, _⟩ := s1.open_
    go_wp2_with fail
    refine (stack_c m.c.s hs.1 hs.2 _).mono ?_
    rintro e wq ⟨rfl, rfl⟩
    go_wp2_with fail
    refine (read_c s1 (stk m.c.s) ks.1 ks.2 (by first | omega | (simp; omega))).mono ?_
    rintro e w2 ⟨rfl, s2⟩
    obtain ⟨cap2, cv2, s2c, s2f, _, _⟩ := s2.open_
    have s3 := s2.setS' v1
    have S3 := Lib.hid s3
    clear s3
    go_wp2_with fail
    refine (stack_c (u8 (m.c.s + 1)) v1.1 v1.2 _).mono ?_
    rintro e wq ⟨rfl, rfl⟩
    go_wp2_with fail
    refine (read_c S3.out (stk (u8 (m.c.s + 1))) k1.1 k1.2 (by first | omega | (simp; omega))).mono ?_
    rintro e w4 ⟨rfl, s4⟩
    obtain ⟨cap4, cv4, s4c, s4f, _, _⟩ := s4.open_
    go_wp2_with fail
    refine (do_LDA s4 (m.look (stk (u8 (m.c.s + 1)))) hb).mono ?_
    rintro e w5 ⟨rfl, s5⟩
    have S5 := Lib.hid s5
    clear s5
    go_wp2
    go_returns
    exact ⟨rfl, S5.out⟩
  · have kb : (l == [80, 76, 65]) = false := by simpa using kl
    have HF : Hid (pullF l m = _) := if_neg kl
    clear kl
    go_enter Tryz.func59, Tryz.ntmps59
    go_wp2_with fail
    refine (read_c h (u16 (m.c.pc + 1)) (u16_ok _).1 (u16_ok _).2 (by first | omega | (simp; omega))).mono ?_
    rintro e w1 ⟨rfl, s1⟩
    obtain ⟨cap1, cv1, s1c, s1f, _, _⟩ := s1.open_
    go_wp2_with fail
    refine (stack_c m.c.s hs.1 hs.2 _).mono ?_
    rintro e wq ⟨rfl, rfl⟩
    go_wp2_with fail
    refine (read_c s1 (stk m.c.s) ks.1 ks.2 (by first | omega | (simp; omega))).mono ?_
    rintro e w2 ⟨rfl, s2⟩
    obtain ⟨cap2, cv2, s2c, s2f, _, _⟩ := s2.open_
    have s3 := s2.setS' v1
    have S3 := Lib.hid s3
    clear s3
    go_wp2_with fail
    refine (stack_c (u8 (m.c.s + 1)) v1.1 v1.2 _).mono ?_
    rintro e wq ⟨rfl, rfl⟩
    go_wp2_with fail
    refine (read_c S3.out (stk (u8 (m.c.s + 1))) k1.1 k1.2 (by first | omega | (simp; omega))).mono ?_
    rintro e w4 ⟨rfl, s4⟩
    obtain ⟨cap4, cv4, s4c, s4f, _, _⟩ := s4.open_
    go_wp2_with fail
    refine (UnpackP_c (m.look (stk (u8 (m.c.s + 1)))) hb.1 hb.2 _).mono ?_
    rintro e w5 ⟨rfl, hb5⟩
    have s5 := s4.later hb5
    obtain ⟨cap5, cv5, s5c, s5f, _, _⟩ := s5.open_
    have S5 := Lib.hid s5
    clear s5 hb5
    go_wp2
    go_returns
    rw [HF.out]
    exact ⟨rfl, S5.out.setF _ _ _ _ _ _⟩
set_option maxHeartbeats 1000000 in
set_option maxRecDepth 100000 in
theorem pushOne_c {B : Nat} {w0 w : World} {b g : Nat} {m : Ms} (h : St B w0 b g m w) (l : List UInt8) (hl : m.cy.length < 900000) :
    Calls Tryz.prog 58 #[.pointer (some ⟨b, 0, none⟩), .string ⟨l.toArray⟩] w fun e w' => e = .returned (.tuple #[]) ∧ St B w0 b g (pushF l m) w' := by
  have hA := h.cok
  have p1 := wrap_u16 (m.c.pc + 1)
  have p2 := wrap_u16 (m.c.pc + 2)
  have o1 := u16_ok (m.c.pc + 1)
  have o2 := u16_ok (m.c.pc + 2)
  have hz := Ms.look_ok h.byt (u16 (m.c.pc + 1))
  obtain ⟨cap, cv, hc, hf, _, _⟩ := h.open_
  unfold Cp.ok at hA
  have hp := pack_ok m.c.f true
  by_cases kl : l = [80, 72, 65]
  · subst kl
    go_enter Tryz.func58, Tryz.ntmps58
    go_wp2_with fail
    refine (read_c h (u16 (m.c.pc + 1)) (u16_ok _).1 (u16_ok _).2 (by first | omega | (simp; omega))).mono ?_
    rintro e w1 ⟨rfl, s1⟩
    obtain ⟨cap1, cv1, s1c, s1f, _, _⟩ := s1.open_
    go_wp2_with fail
    refine (pushNew s1 [m.c.a] (byt1 (by omega)) (by first | omega | (simp; omega)) (by simp) _ _ rfl _ rfl).mono ?_
    rintro e w3 ⟨rfl, s3⟩
    have S3 := Lib.hid s3
    clear s3
    go_wp2
    go_returns
    exact ⟨rfl, S3.out⟩
  · have kb : (l == [80, 72, 65]) = false := by simpa using kl
    have HF : Hid (pushF l m = (m.read (u16 (m.c.pc + 1))).push [packF m.c.f true]) := by unfold pushF; rw [if_neg kl]; rfl
    clear kl
    go_enter Tryz.func58, Tryz.ntmps58
    go_wp2_with fail
    refine (read_c h (u16 (m.c.pc + 1)) (u16_ok _).1 (u16_ok _).2 (by first | omega | (simp; omega))).mono ?_
    rintro e w1 ⟨rfl, s1⟩
    obtain ⟨cap1, cv1, s1c, s1f, _, _⟩ := s1.open_
    go_wp2_with fail
    refine (PackP_c m.c.f true _).mono ?_
    rintro e w2 ⟨rfl, hb2⟩
    have s2 := s1.later hb2
    go_wp2_with fail
    refine (pushNew s2 [packF m.c.f true] (byt1 hp) (by first | omega | (simp; omega)) (by simp) _ _ rfl _ rfl).mono ?_
    rintro e w3 ⟨rfl, s3⟩
    have S3 := Lib.hid s3
    clear s3
    go_wp2
    go_returns
    rw [HF.out]
    exact ⟨rfl, S3.out⟩
theorem flow_c {B : Nat} {w0 w : World} {b g : Nat} {m : Ms} (h : St B w0 b g m w) (kind mode : Int) (l : List UInt8) (hk : kind = 5 ∨ kind = 6 ∨ kind = 7 ∨ kind = 8 ∨ kind = 9 ∨ kind = 10) (hl : m.cy.length < 900000) :
    Calls Tryz.prog 60 #[.pointer (some ⟨b, 0, none⟩), .int .i64 kind, .int .i64 mode, .string ⟨l.toArray⟩] w fun e w' => e = .returned (.tuple #[]) ∧ St B w0 b g (flowF kind mode l m) w' := by
  rcases hk with rfl | rfl | rfl | rfl | rfl | rfl
  · exact flow_5 h mode l hl
  · exact flow_6 h mode l hl
  · exact flow_7 h mode l hl
  · exact flow_8 h mode l hl
  · exact flow_9 h mode l hl
  · exact flow_10 h mode l hl
set_option maxHeartbeats 1000000 in
set_option maxRecDepth 100000 in
theorem operate_imm {B : Nat} {w0 w : World} {b g : Nat} {m : Ms} (h : St B w0 b g m w) (kind mode : Int) (l : List UInt8) (hl : m.cy.length < 800000) (hm : mode = 2) :
    Calls Tryz.prog 57 #[.pointer (some ⟨b, 0, none⟩), .int .i64 kind, .int .i64 mode, .string ⟨l.toArray⟩] w fun e w' => e = .returned (.tuple #[]) ∧ St B w0 b g (operF kind mode l m) w' := by
  subst hm
  have hA := h.cok
  have p1 := wrap_u16 (m.c.pc + 1)
  have p2 := wrap_u16 (m.c.pc + 2)
  have o1 := u16_ok (m.c.pc + 1)
  have o2 := u16_ok (m.c.pc + 2)
  have hz := Ms.look_ok h.byt (u16 (m.c.pc + 1))
  obtain ⟨cap, cv, hc, hf, _, _⟩ := h.open_
  unfold Cp.ok at hA
  go_enter Tryz.func57, Tryz.ntmps57
  go_wp2_with fail
  refine (read_c h (u16 (m.c.pc + 1)) (u16_ok _).1 (u16_ok _).2 (by first | omega | (simp; omega))).mono ?_
  rintro e w1 ⟨rfl, s1⟩
  obtain ⟨cap1, cv1, s1c, s1f, _, _⟩ := s1.open_
  go_wp2_with fail
  refine (do_c s1 l (m.look (u16 (m.c.pc + 1))) hz).mono ?_
  rintro e w2 ⟨rfl, s2⟩
  have S2 := Lib.hid s2
  clear s2
  go_wp2
  go_returns
  exact ⟨rfl, S2.out⟩
set_option maxHeartbeats 1000000 in
set_option maxRecDepth 100000 in
theorem operate_2 {B : Nat} {w0 w : World} {b g : Nat} {m : Ms} (h : St B w0 b g m w) (kind mode : Int) (hk : kind = 2) (l : List UInt8) (hl : m.cy.length < 800000) (hm : mode = 3 ∨ mode = 4 ∨ mode = 5 ∨ mode = 6 ∨ mode = 7 ∨ mode = 8 ∨ mode = 10 ∨ mode = 11) :
    Calls Tryz.prog 57 #[.pointer (some ⟨b, 0, none⟩), .int .i64 kind, .int .i64 mode, .string ⟨l.toArray⟩] w fun e w' => e = .returned (.tuple #[]) ∧ St B w0 b g (operF kind mode l m) w' := by
  subst hk
  have km : ¬ mode = 2 := by omega
  have HF : Hid (operF 2 mode l m = ((placeF mode 2 m).2.read (placeF mode 2 m).1).do_ l ((placeF mode 2 m).2.look (placeF mode 2 m).1)) := by simp only [Hid, operF, if_neg km, if_true]
  go_enter Tryz.func57, Tryz.ntmps57
  go_wp2_with fail
  refine (place_c h mode 2 hm (by omega)).mono ?_
  rintro e w1 ⟨rfl, s1⟩
  have p1 := place_len mode 2 m
  have p2 := place_ok h.byt h.cok mode 2 hm
  have p3 := place_cpu mode 2 m
  generalize hq : placeF mode 2 m = q at *

  clear hq
  obtain ⟨e1, m1⟩ := q
  simp only [] at s1 p1 p2 p3
  have hb := Ms.look_ok s1.byt e1
  obtain ⟨cap1, cv1, s1c, s1f, _, _⟩ := s1.open_
  go_wp2_with fail
  refine (read_c s1 e1 p2.1 p2.2 (by omega)).mono ?_
  rintro e w2 ⟨rfl, s2⟩
  obtain ⟨cap2, cv2, s2c, s2f, _, _⟩ := s2.open_
  go_wp2_with fail
  refine (do_c s2 l (m1.look e1) hb).mono ?_
  rintro e w3 ⟨rfl, s3⟩
  have S3 := Lib.hid s3
  clear s3
  go_wp2
  go_returns
  rw [HF.out]
  exact ⟨rfl, S3.out⟩
set_option maxHeartbeats 1000000 in
set_option maxRecDepth 100000 in
theorem operate_4 {B : Nat} {w0 w : World} {b g : Nat} {m : Ms} (h : St B w0 b g m w) (kind mode : Int) (hk : kind = 4) (l : List UInt8) (hl : m.cy.length < 800000) (hm : mode = 3 ∨ mode = 4 ∨ mode = 5 ∨ mode = 6 ∨ mode = 7 ∨ mode = 8 ∨ mode = 10 ∨ mode = 11) :
    Calls Tryz.prog 57 #[.pointer (some ⟨b, 0, none⟩), .int .i64 kind, .int .i64 mode, .string ⟨l.toArray⟩] w fun e w' => e = .returned (.tuple #[]) ∧ St B w0 b g (operF kind mode l m) w' := by
  subst hk
  have km : ¬ mode = 2 := by omega
  have HF : Hid (operF 4 mode l m = modF l (placeF mode 4 m).1 (placeF mode 4 m).2) := by simp [Hid, operF, if_neg km]
  go_enter Tryz.func57, Tryz.ntmps57
  go_wp2_with fail
  refine (place_c h mode 4 hm (by omega)).mono ?_
  rintro e w1 ⟨rfl, s1⟩
  have p1 := place_len mode 4 m
  have p2 := place_ok h.byt h.cok mode 4 hm
  have p3 := place_cpu mode 4 m
  generalize hq : placeF mode 4 m = q at *

  clear hq
  obtain ⟨e1, m1⟩ := q
  simp only [] at s1 p1 p2 p3
  have hb := Ms.look_ok s1.byt e1
  obtain ⟨cap1, cv1, s1c, s1f, _, _⟩ := s1.open_
  clear p3
  go_wp2_with fail
  refine (read_c s1 e1 p2.1 p2.2 (by omega)).mono ?_
  rintro e w2 ⟨rfl, s2⟩
  obtain ⟨cap2, cv2, s2c, s2f, _, _⟩ := s2.open_
  go_wp2_with fail
  refine (write_c s2 e1 (m1.look e1) p2.1 p2.2 hb (by simp; omega)).mono ?_
  rintro e w3 ⟨rfl, s3⟩
  obtain ⟨cap3, cv3, s3c, s3f, _, _⟩ := s3.open_
  go_wp2_with fail
  refine (do_c s3 l (m1.look e1) hb).mono ?_
  rintro e w4 ⟨rfl, s4⟩
  have hd := doF_ok l (m1.look e1) m1.c hb s1.cok
  go_wp2_with fail
  refine (write_c s4 e1 (doF l (m1.look e1) m1.c).1 p2.1 p2.2 hd (by simp; omega)).mono ?_
  rintro e w5 ⟨rfl, s5⟩
  have S5 := Lib.hid s5
  clear s5
  go_wp2
  go_returns
  rw [HF.out]
  exact ⟨rfl, S5.out⟩
set_option maxHeartbeats 1000000 in
set_option maxRecDepth 100000 in
theorem operate_STA {B : Nat} {w0 w : World} {b g : Nat} {m : Ms} (h : St B w0 b g m w) (mode : Int) (hl : m.cy.length < 800000) (hm : mode = 3 ∨ mode = 4 ∨ mode = 5 ∨ mode = 6 ∨ mode = 7 ∨ mode = 8 ∨ mode = 10 ∨ mode = 11) :
    Calls Tryz.prog 57 #[.pointer (some ⟨b, 0, none⟩), .int .i64 3, .int .i64 mode, .string ⟨#[83, 84, 65]⟩] w fun e w' => e = .returned (.tuple #[]) ∧ St B w0 b g (operF 3 mode [83, 84, 65] m) w' := by
  have km : ¬ mode = 2 := by omega
  have HF : Hid (operF 3 mode [83, 84, 65] m = (placeF mode 3 m).2.write (placeF mode 3 m).1 m.c.a) := by simp only [Hid, operF, if_neg km, if_true]; rfl
  have hA := h.cok
  have hv : 0 ≤ m.c.a ∧ m.c.a < 256 := by unfold Cp.ok at hA; omega
  go_enter Tryz.func57, Tryz.ntmps57
  go_wp2_with fail
  refine (place_c h mode 3 hm (by omega)).mono ?_
  rintro e w1 ⟨rfl, s1⟩
  have p1 := place_len mode 3 m
  have p2 := place_ok h.byt h.cok mode 3 hm
  have p3 := place_cpu mode 3 m
  generalize hq : placeF mode 3 m = q at *

  clear hq
  obtain ⟨e1, m1⟩ := q
  simp only [] at s1 p1 p2 p3
  have hb := Ms.look_ok s1.byt e1
  obtain ⟨cap1, cv1, s1c, s1f, _, _⟩ := s1.open_
  rw [p3] at s1c
  go_wp2_with fail
  refine (register_A _ _).mono ?_
  rintro e w2 ⟨rfl, rfl⟩
  go_wp2_with fail
  refine (write_c s1 e1 m.c.a p2.1 p2.2 hv (by omega)).mono ?_
  rintro e w3 ⟨rfl, s3⟩
  have S3 := Lib.hid s3
  clear s3
  go_wp2
  go_returns
  rw [HF.out]
  exact ⟨rfl, S3.out⟩
set_option maxHeartbeats 1000000 in
set_option maxRecDepth 100000 in
theorem operate_STX {B : Nat} {w0 w : World} {b g : Nat} {m : Ms} (h : St B w0 b g m w) (mode : Int) (hl : m.cy.length < 800000) (hm : mode = 3 ∨ mode = 4 ∨ mode = 5 ∨ mode = 6 ∨ mode = 7 ∨ mode = 8 ∨ mode = 10 ∨ mode = 11) :
    Calls Tryz.prog 57 #[.pointer (some ⟨b, 0, none⟩), .int .i64 3, .int .i64 mode, .string ⟨#[83, 84, 88]⟩] w fun e w' => e = .returned (.tuple #[]) ∧ St B w0 b g (operF 3 mode [83, 84, 88] m) w' := by
  have km : ¬ mode = 2 := by omega
  have HF : Hid (operF 3 mode [83, 84, 88] m = (placeF mode 3 m).2.write (placeF mode 3 m).1 m.c.x) := by simp only [Hid, operF, if_neg km, if_true]; rfl
  have hA := h.cok
  have hv : 0 ≤ m.c.x ∧ m.c.x < 256 := by unfold Cp.ok at hA; omega
  go_enter Tryz.func57, Tryz.ntmps57
  go_wp2_with fail
  refine (place_c h mode 3 hm (by omega)).mono ?_
  rintro e w1 ⟨rfl, s1⟩
  have p1 := place_len mode 3 m
  have p2 := place_ok h.byt h.cok mode 3 hm
  have p3 := place_cpu mode 3 m
  generalize hq : placeF mode 3 m = q at *

  clear hq
  obtain ⟨e1, m1⟩ := q
  simp only [] at s1 p1 p2 p3
  have hb := Ms.look_ok s1.byt e1
  obtain ⟨cap1, cv1, s1c, s1f, _, _⟩ := s1.open_
  rw [p3] at s1c
  go_wp2_with fail
  refine (register_X _ _).mono ?_
  rintro e w2 ⟨rfl, rfl⟩
  go_wp2_with fail
  refine (write_c s1 e1 m.c.x p2.1 p2.2 hv (by omega)).mono ?_
  rintro e w3 ⟨rfl, s3⟩
  have S3 := Lib.hid s3
  clear s3
  go_wp2
  go_returns
  rw [HF.out]
  exact ⟨rfl, S3.out⟩
set_option maxHeartbeats 1000000 in
set_option maxRecDepth 100000 in
theorem operate_STY {B : Nat} {w0 w : World} {b g : Nat} {m : Ms} (h : St B w0 b g m w) (mode : Int) (hl : m.cy.length < 800000) (hm : mode = 3 ∨ mode = 4 ∨ mode = 5 ∨ mode = 6 ∨ mode = 7 ∨ mode = 8 ∨ mode = 10 ∨ mode = 11) :
    Calls Tryz.prog 57 #[.pointer (some ⟨b, 0, none⟩), .int .i64 3, .int .i64 mode, .string ⟨#[83, 84, 89]⟩] w fun e w' => e = .returned (.tuple #[]) ∧ St B w0 b g (operF 3 mode [83, 84, 89] m) w' := by
  have km : ¬ mode = 2 := by omega
  have HF : Hid (operF 3 mode [83, 84, 89] m = (placeF mode 3 m).2.write (placeF mode 3 m).1 m.c.y) := by simp only [Hid, operF, if_neg km, if_true]; rfl
  have hA := h.cok
  have hv : 0 ≤ m.c.y ∧ m.c.y < 256 := by unfold Cp.ok at hA; omega
  go_enter Tryz.func57, Tryz.ntmps57
  go_wp2_with fail
  refine (place_c h mode 3 hm (by omega)).mono ?_
  rintro e w1 ⟨rfl, s1⟩
  have p1 := place_len mode 3 m
  have p2 := place_ok h.byt h.cok mode 3 hm
  have p3 := place_cpu mode 3 m
  generalize hq : placeF mode 3 m = q at *

  clear hq
  obtain ⟨e1, m1⟩ := q
  simp only [] at s1 p1 p2 p3
  have hb := Ms.look_ok s1.byt e1
  obtain ⟨cap1, cv1, s1c, s1f, _, _⟩ := s1.open_
  rw [p3] at s1c
  go_wp2_with fail
  refine (register_Y _ _).mono ?_
  rintro e w2 ⟨rfl, rfl⟩
  go_wp2_with fail
  refine (write_c s1 e1 m.c.y p2.1 p2.2 hv (by omega)).mono ?_
  rintro e w3 ⟨rfl, s3⟩
  have S3 := Lib.hid s3
  clear s3
  go_wp2
  go_returns
  rw [HF.out]
  exact ⟨rfl, S3.out⟩
end Go.Proofs.YtemahcjglmhefaaGreatDoor
