/- A JSR and the RTS where it goes to, in plain words. No condition. -/
import Derived.Test.YtemahcjglmhefaaGreatDoorKServe
import Derived.Test.YtemahcjglmhefaaGreatDoorKFill
namespace Go.Proofs.YtemahcjglmhefaaGreatDoor
set_option linter.unusedVariables false
set_option linter.unusedSimpArgs false

theorem rd_set (xs : List Int) (i : Nat) (v : Int) (j : Int) (h : i < xs.length) : rd (xs.set i v) j = if i = j.toNat then v else rd xs j := by
  simp only [rd, List.getD_eq_getElem?_getD, List.getElem?_set]
  split
  · rename_i e; subst e; simp [h]
  · rfl
theorem fill3 (ys : List Int) (a b c : Int) (h : 1024 ≤ ys.length) : fillF ys 700 [a, b, c] = ((ys.set 700 a).set 701 b).set 702 c := by
  have e0 : ((700 : Int) % (ys.length : Int)).toNat = 700 := by rw [Int.emod_eq_of_lt (by omega) (by omega)]; rfl
  have e1 : ((701 : Int) % (ys.length : Int)).toNat = 701 := by rw [Int.emod_eq_of_lt (by omega) (by omega)]; rfl
  have e2 : ((702 : Int) % (ys.length : Int)).toNat = 702 := by rw [Int.emod_eq_of_lt (by omega) (by omega)]; rfl
  simp [fillF, fillN, u16, e0, e1, e2]
theorem fill1 (ys : List Int) (t b : Int) (h0 : 0 ≤ t) (h1 : t < 1024) (h : 1024 ≤ ys.length) : fillF ys t [b] = ys.set t.toNat b := by
  have e0 : (t % 65536 % (ys.length : Int)).toNat = t.toNat := by rw [Int.emod_eq_of_lt (by omega) (by omega), Int.emod_eq_of_lt (by omega) (by omega)]
  simp [fillF, fillN, u16, e0]
theorem look_lt (m : Ms) (a : Int) (h0 : 0 ≤ a) (h1 : a < m.ram.length) : m.look a = rd m.ram a := by unfold Ms.look; rw [Int.emod_eq_of_lt h0 h1]
theorem op32 : opF 32 = ([74, 83, 82], 6) := by decide +kernel
theorem op96 : opF 96 = ([82, 84, 83], 0) := by decide +kernel
theorem stepBy32 (m : Ms) : stepBy ([74, 83, 82], 6) m = subF m := by simp [stepBy, kindF, flowF]
theorem stepBy96 (m : Ms) : stepBy ([82, 84, 83], 0) m = backF m := by simp [stepBy, kindF, flowF]
theorem step_sub (c : Cp) (xs : List Int) (t : Int) (hn : 1024 ≤ xs.length) (hc : c.ok) (hpc : c.pc = 700) (h0 : rd xs 700 = 32) (h1 : rd xs 701 = t % 256) (h2 : rd xs 702 = t / 256) :
    (StepF c xs).c = { c with pc := t, s := (c.s - 2) % 256 } ∧ (StepF c xs).ram = (xs.set (256 + c.s).toNat 2).set (256 + (c.s - 1) % 256).toNat 190 := by
  have hs : 0 ≤ c.s ∧ c.s < 256 := by unfold Cp.ok at hc; omega
  obtain ⟨a, x, y, s, pc, f⟩ := c
  simp only at hpc hs
  subst hpc
  unfold StepF
  have e0 : ((700 : Int) % (xs.length : Int)) = 700 := Int.emod_eq_of_lt (by omega) (by omega)
  have e1 : ((701 : Int) % (xs.length : Int)) = 701 := Int.emod_eq_of_lt (by omega) (by omega)
  have e2 : ((702 : Int) % (xs.length : Int)) = 702 := Int.emod_eq_of_lt (by omega) (by omega)
  simp only [e0, h0, op32]
  rw [if_neg (by simp)]
  unfold stepF
  rw [look_lt _ _ (by simp) (by simp; omega)]
  simp only [h0, op32]
  rw [stepBy32]
  have i1 : ((256 + s) % (xs.length : Int)).toNat = (256 + s).toNat := by rw [Int.emod_eq_of_lt (by omega) (by omega)]
  have i2 : ((256 + (s - 1) % 256) % (xs.length : Int)).toNat = (256 + (s - 1) % 256).toNat := by rw [Int.emod_eq_of_lt (by omega) (by omega)]
  have r : rd ((xs.set (256 + s).toNat 2).set (256 + (s - 1) % 256).toNat 190) 702 = t / 256 := by
    rw [rd_set _ _ _ _ (by simp; omega), if_neg (by omega), rd_set _ _ _ _ (by omega), if_neg (by omega), h2]
  constructor
  · simp only [subF, subPush, Ms.push, List.foldl_cons, List.foldl_nil, Ms.push1, Ms.read, Ms.write, Ms.setPC, Ms.look, u16, u8, stk, List.length_set, i1, i2]
    simp only [show ((700 + 2 : Int) % 65536) = 702 by decide, show ((700 + 1 : Int) % 65536) = 701 by decide, show ((702 : Int) / 256) = 2 by decide, show ((700 + 2 : Int) % 256) = 190 by decide, e1, e2, r, h1]
    simp only [Cp.mk.injEq, and_true, true_and]
    omega
  · simp only [subF, subPush, Ms.push, List.foldl_cons, List.foldl_nil, Ms.push1, Ms.read, Ms.write, Ms.setPC, u16, u8, stk, List.length_set, i1, i2]
    simp only [show ((700 + 2 : Int) % 65536) = 702 by decide, show ((702 : Int) / 256) = 2 by decide, show ((700 + 2 : Int) % 256) = 190 by decide]
theorem step_back (c : Cp) (xs : List Int) (hn : 1024 ≤ xs.length) (hc : c.ok) (hpc : 900 ≤ c.pc ∧ c.pc < 1000) (h0 : rd xs c.pc = 96) (h1 : rd xs (256 + (c.s + 1) % 256) = 190) (h2 : rd xs (256 + (c.s + 2) % 256) = 2) :
    (StepF c xs).c = { c with pc := 703, s := (c.s + 2) % 256 } ∧ (StepF c xs).cy.length = 6 := by
  have hs : 0 ≤ c.s ∧ c.s < 256 := by unfold Cp.ok at hc; omega
  obtain ⟨a, x, y, s, pc, f⟩ := c
  simp only at hpc hs h0 h1 h2
  unfold StepF
  have e0 : (pc % (xs.length : Int)) = pc := Int.emod_eq_of_lt (by omega) (by omega)
  have e1 : ((256 + (s + 1) % 256) % (xs.length : Int)) = 256 + (s + 1) % 256 := Int.emod_eq_of_lt (by omega) (by omega)
  have e2 : ((256 + (s + 2) % 256) % (xs.length : Int)) = 256 + (s + 2) % 256 := Int.emod_eq_of_lt (by omega) (by omega)
  simp only [e0, h0, op96]
  rw [if_neg (by simp)]
  unfold stepF
  rw [look_lt _ _ (by simp; omega) (by simp; omega)]
  simp only [h0, op96]
  rw [stepBy96]
  constructor
  · simp only [backF, Ms.read2, Ms.read, Ms.setPC, Ms.setS, Ms.word, Ms.look, u16, u8, stk, e1, e2, h1, h2]
    simp
  · simp [backF, Ms.read2, Ms.read, Ms.setPC, Ms.setS]
/-- The law's plain core. -/
theorem call_law (c : Cp) (ys : List Int) (t : Int) (hn : 1024 ≤ ys.length) (hc : c.ok) (ht : 900 ≤ t ∧ t < 1000) :
    let xs := fillF (fillF ys 700 [32, t % 256, t / 256]) t [96]
    let m := StepF { c with pc := 700 } xs
    let k := StepF m.c m.ram
    m.c.pc = t ∧ m.c.s = (c.s - 2) % 256 ∧ k.c = { c with pc := 703 } ∧ k.cy.length = 6 := by
  intro xs m k
  have hs : 0 ≤ c.s ∧ c.s < 256 := by unfold Cp.ok at hc; omega
  have hx : xs = (((ys.set 700 32).set 701 (t % 256)).set 702 (t / 256)).set t.toNat 96 := by
    show fillF (fillF ys 700 [32, t % 256, t / 256]) t [96] = _
    rw [fill3 _ _ _ _ hn, fill1 _ _ _ (by omega) (by omega) (by simp; omega)]
  have hl : xs.length = ys.length := by rw [hx]; simp
  have r0 : rd xs 700 = 32 := by
    rw [hx, rd_set _ _ _ _ (by simp; omega), if_neg (by omega), rd_set _ _ _ _ (by simp; omega), if_neg (by omega), rd_set _ _ _ _ (by simp; omega), if_neg (by omega), rd_set _ _ _ _ (by omega), if_pos (by rfl)]
  have r1 : rd xs 701 = t % 256 := by
    rw [hx, rd_set _ _ _ _ (by simp; omega), if_neg (by omega), rd_set _ _ _ _ (by simp; omega), if_neg (by omega), rd_set _ _ _ _ (by simp; omega), if_pos (by rfl)]
  have r2 : rd xs 702 = t / 256 := by
    rw [hx, rd_set _ _ _ _ (by simp; omega), if_neg (by omega), rd_set _ _ _ _ (by simp; omega), if_pos (by rfl)]
  have r3 : rd xs t = 96 := by rw [hx, rd_set _ _ _ _ (by simp; omega), if_pos (by rfl)]
  obtain ⟨p1, p2⟩ := step_sub { c with pc := 700 } xs t (by omega) (by unfold Cp.ok at hc ⊢; simp only; omega) rfl r0 r1 r2
  have q1 : m.c = { c with pc := t, s := (c.s - 2) % 256 } := p1
  have q2 : m.ram = (xs.set (256 + c.s).toNat 2).set (256 + (c.s - 1) % 256).toNat 190 := p2
  have hk := step_back m.c m.ram (by rw [q2]; simp; omega) (by rw [q1]; unfold Cp.ok at hc ⊢; simp only; omega) (by rw [q1]; exact ht)
    (by rw [q1, q2, rd_set _ _ _ _ (by simp; omega), if_neg (by simp only; omega), rd_set _ _ _ _ (by omega), if_neg (by simp only; omega)]; exact r3)
    (by rw [q1, q2, rd_set _ _ _ _ (by simp; omega), if_pos (by simp only; omega)])
    (by rw [q1, q2, rd_set _ _ _ _ (by simp; omega), if_neg (by simp only; omega), rd_set _ _ _ _ (by omega), if_pos (by simp only; omega)])
  refine ⟨by rw [q1], by rw [q1], ?_, hk.2⟩
  show (StepF m.c m.ram).c = _
  rw [hk.1, q1]
  simp only [Cp.mk.injEq, and_true, true_and]
  omega
end Go.Proofs.YtemahcjglmhefaaGreatDoor
