/- An interrupt and the RTI where it goes to, in plain words. No condition. -/
import Derived.Test.YtemahcjglmhefaaGreatDoorKPCall
import Derived.Test.YtemahcjglmhefaaGreatDoorKSBus
namespace Go.Proofs.YtemahcjglmhefaaGreatDoor
set_option linter.unusedVariables false
set_option linter.unusedSimpArgs false

theorem fillAt (ys : List Int) (t b : Int) (h0 : 0 ≤ t) (h1 : t < 65536) : fillF ys t [b] = ys.set (t % (ys.length : Int)).toNat b := by
  have e0 : (t % 65536) = t := Int.emod_eq_of_lt (by omega) (by omega)
  simp [fillF, fillN, u16, e0]
theorem op64 : opF 64 = ([82, 84, 73], 0) := by decide +kernel
theorem stepBy64 (m : Ms) : stepBy ([82, 84, 73], 0) m = rtiF m := by simp [stepBy, kindF, flowF]
theorem unpack_pack (f : Fl) (b : Bool) : unpackF (packF f b) = f := by
  obtain ⟨n, v, d, i, z, c⟩ := f
  revert n v d i z c b
  decide +kernel
theorem serve_ram (m : Ms) (nmi : Bool) : (serveF m nmi).ram = ((m.ram.set ((256 + m.c.s) % (m.ram.length : Int)).toNat (m.c.pc / 256)).set ((256 + (m.c.s - 1) % 256) % (m.ram.length : Int)).toNat (u8 m.c.pc)).set ((256 + (m.c.s - 2) % 256) % (m.ram.length : Int)).toNat (packF m.c.f false) := by
  simp only [serveF, vecF, push3, Ms.setF, Ms.setPC, Ms.read2, Ms.read, Ms.write, List.length_set]
theorem serve_cpu (m : Ms) (nmi : Bool) : (serveF m nmi).c.a = m.c.a ∧ (serveF m nmi).c.x = m.c.x ∧ (serveF m nmi).c.y = m.c.y ∧ (serveF m nmi).c.s = (m.c.s - 3) % 256 := by
  simp only [serveF, vecF, push3, Ms.setF, Ms.setPC, Ms.read2, Ms.read, Ms.write, and_self]
theorem serve_len (m : Ms) (nmi : Bool) : (serveF m nmi).cy.length = m.cy.length + 7 := by
  simp only [serveF, vecF, push3, Ms.setF, Ms.setPC, Ms.read2, Ms.read, Ms.write, List.length_append, List.length_cons, List.length_nil]
theorem step_rti (c : Cp) (xs : List Int) (f : Fl) (pc : Int) (hn : okSize xs.length) (hs : 0 ≤ c.s ∧ c.s < 256) (h0 : rd xs (c.pc % (xs.length : Int)) = 64)
    (h1 : rd xs ((256 + (c.s + 1) % 256) % (xs.length : Int)) = packF f false) (h2 : rd xs ((256 + (c.s + 2) % 256) % (xs.length : Int)) = pc % 256) (h3 : rd xs ((256 + (c.s + 3) % 256) % (xs.length : Int)) = pc / 256) :
    (StepF c xs).c = ⟨c.a, c.x, c.y, (c.s + 3) % 256, pc, f⟩ := by
  obtain ⟨a, x, y, s, p, f0⟩ := c
  simp only at hs h0 h1 h2 h3
  unfold StepF
  simp only [h0, op64]
  rw [if_neg (by simp)]
  unfold stepF
  rw [show Ms.look ⟨⟨a, x, y, s, p, f0⟩, xs, []⟩ p = 64 from h0]
  simp only [op64]
  rw [stepBy64]
  simp only [rtiF, Ms.read2, Ms.read, Ms.setPC, Ms.setS, Ms.setF, Ms.word, Ms.look, u8, stk, h1, h2, h3, unpack_pack]
  simp only [Cp.mk.injEq, and_true, true_and]
  omega
/-- The law's plain core. -/
theorem serve_law (c : Cp) (xs : List Int) (nmi : Bool) (hn : okSize xs.length) (hc : c.ok) (hpc : 0 ≤ (serveF ⟨c, xs, []⟩ nmi).c.pc ∧ (serveF ⟨c, xs, []⟩ nmi).c.pc < 65536)
    (h : ∀ i : Nat, i < 3 → (serveF ⟨c, xs, []⟩ nmi).c.pc % (xs.length : Int) ≠ (256 + (c.s - i) % 256) % (xs.length : Int)) :
    (StepF (serveF ⟨c, xs, []⟩ nmi).c (fillF (serveF ⟨c, xs, []⟩ nmi).ram (serveF ⟨c, xs, []⟩ nmi).c.pc [64])).c = c := by
  have hs : 0 ≤ c.s ∧ c.s < 256 := by unfold Cp.ok at hc; omega
  obtain ⟨q1, q2, q3, q4⟩ := serve_cpu ⟨c, xs, []⟩ nmi
  have hr := serve_ram ⟨c, xs, []⟩ nmi
  generalize serveF ⟨c, xs, []⟩ nmi = m at *
  have h0 : m.c.pc % (xs.length : Int) ≠ (256 + (c.s - 0) % 256) % (xs.length : Int) := h 0 (by omega)
  have h1 : m.c.pc % (xs.length : Int) ≠ (256 + (c.s - 1) % 256) % (xs.length : Int) := h 1 (by omega)
  have h2 : m.c.pc % (xs.length : Int) ≠ (256 + (c.s - 2) % 256) % (xs.length : Int) := h 2 (by omega)
  simp only at hr q1 q2 q3 q4
  have hl : m.ram.length = xs.length := by rw [hr]; simp
  rw [fillAt _ _ _ hpc.1 hpc.2, hl]
  have hN : 256 ≤ xs.length := by unfold okSize at hn; omega
  have hlen : ∀ t : Int, (t % (xs.length : Int)).toNat < xs.length := fun t => by
    have := Int.emod_nonneg t (show (xs.length : Int) ≠ 0 by omega)
    have := Int.emod_lt_of_pos t (show (0 : Int) < (xs.length : Int) by omega)
    omega
  have hpos : ∀ t : Int, 0 ≤ t % (xs.length : Int) := fun t => Int.emod_nonneg t (by omega)
  -- the places are apart
  have hap : ∀ a b : Int, 0 ≤ a → a < 256 → 0 ≤ b → b < 256 → a ≠ b → (256 + a) % (xs.length : Int) ≠ (256 + b) % (xs.length : Int) := by
    intro a b a0 a1 b0 b1 hab
    unfold okSize at hn
    rcases hn with e | e | e | e | e <;> rw [e] <;> omega
  have r0 : rd (m.ram.set (m.c.pc % (xs.length : Int)).toNat 64) (m.c.pc % (xs.length : Int)) = 64 := by
    rw [rd_set _ _ _ _ (by rw [hl]; exact hlen _), if_pos rfl]
  have hrd : ∀ a : Int, m.c.pc % (xs.length : Int) ≠ (256 + a) % (xs.length : Int) → rd (m.ram.set (m.c.pc % (xs.length : Int)).toNat 64) ((256 + a) % (xs.length : Int)) = rd m.ram ((256 + a) % (xs.length : Int)) := by
    intro a ha
    rw [rd_set _ _ _ _ (by rw [hl]; exact hlen _), if_neg]
    intro e
    have := hpos m.c.pc
    have := hpos (256 + a)
    omega
  have key := step_rti m.c (m.ram.set (m.c.pc % (xs.length : Int)).toNat 64) c.f c.pc (by rw [List.length_set, hl]; exact hn) (by rw [q4]; omega) (by rw [List.length_set, hl]; exact r0)
    (by
      rw [List.length_set, hl, q4, show ((c.s - 3) % 256 + 1) % 256 = (c.s - 2) % 256 by omega, hrd _ h2, hr, rd_set _ _ _ _ (by simp; exact hlen _), if_pos rfl])
    (by
      rw [List.length_set, hl, q4, show ((c.s - 3) % 256 + 2) % 256 = (c.s - 1) % 256 by omega, hrd _ h1, hr, rd_set _ _ _ _ (by simp; exact hlen _), if_neg, rd_set _ _ _ _ (by simp; exact hlen _), if_pos rfl]
      · rfl
      · intro e
        have := hap ((c.s - 2) % 256) ((c.s - 1) % 256) (by omega) (by omega) (by omega) (by omega) (by omega)
        have := hpos (256 + (c.s - 2) % 256)
        have := hpos (256 + (c.s - 1) % 256)
        omega)
    (by
      have e3 : (256 + c.s) = 256 + (c.s - 0) % 256 := by omega
      rw [List.length_set, hl, q4, show ((c.s - 3) % 256 + 3) % 256 = (c.s - 0) % 256 by omega, hrd _ h0, hr, rd_set _ _ _ _ (by simp; exact hlen _), if_neg, rd_set _ _ _ _ (by simp; exact hlen _), if_neg, rd_set _ _ _ _ (hlen _), ← e3, if_pos rfl]
      · intro e
        have := hap ((c.s - 1) % 256) ((c.s - 0) % 256) (by omega) (by omega) (by omega) (by omega) (by omega)
        have := hpos (256 + (c.s - 1) % 256)
        have := hpos (256 + (c.s - 0) % 256)
        omega
      · intro e
        have := hap ((c.s - 2) % 256) ((c.s - 0) % 256) (by omega) (by omega) (by omega) (by omega) (by omega)
        have := hpos (256 + (c.s - 2) % 256)
        have := hpos (256 + (c.s - 0) % 256)
        omega)
  rw [key, q1, q2, q3, q4]
  obtain ⟨a, x, y, s, p, f⟩ := c
  simp only [Cp.mk.injEq, and_true, true_and]
  simp only at hs
  omega
end Go.Proofs.YtemahcjglmhefaaGreatDoor
