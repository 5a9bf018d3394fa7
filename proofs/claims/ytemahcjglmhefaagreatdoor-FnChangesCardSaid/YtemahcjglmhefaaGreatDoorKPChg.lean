/- An operation changes what it is told to, in plain words. No condition. -/
import Derived.Test.YtemahcjglmhefaaGreatDoorKChg2
import Derived.Test.YtemahcjglmhefaaGreatDoorKServe
namespace Go.Proofs.YtemahcjglmhefaaGreatDoor
set_option linter.unusedVariables false
set_option linter.unusedSimpArgs false

def chgOK (t : List UInt8) (c d : Cp) : Prop := (d.a = c.a ∨ 65 ∈ t) ∧ (d.x = c.x ∨ 88 ∈ t) ∧ (d.y = c.y ∨ 89 ∈ t) ∧ (d.s = c.s ∨ 83 ∈ t) ∧ (d.f.n = c.f.n ∨ 78 ∈ t) ∧ (d.f.v = c.f.v ∨ 86 ∈ t) ∧ (d.f.d = c.f.d ∨ 68 ∈ t) ∧ (d.f.i = c.f.i ∨ 73 ∈ t) ∧ (d.f.z = c.f.z ∨ 90 ∈ t) ∧ (d.f.c = c.f.c ∨ 67 ∈ t)
def shNames : List (List UInt8) := [[65, 83, 76], [76, 83, 82], [82, 79, 76], [82, 79, 82]]
theorem k1 : ∀ k : Fin 256, kindF (opF (k.val : Int)) = 1 → (opF (k.val : Int)).1 ∈ [[73, 78, 88], [73, 78, 89], [68, 69, 88], [68, 69, 89], [84, 65, 88], [84, 88, 65], [84, 65, 89], [84, 89, 65], [84, 83, 88], [84, 88, 83], [67, 76, 67], [83, 69, 67], [67, 76, 73], [83, 69, 73], [67, 76, 68], [83, 69, 68], [67, 76, 86], [78, 79, 80]] ∨ ((opF (k.val : Int)).1 ∈ shNames ∧ (opF (k.val : Int)).2 = 1) := by decide +kernel
theorem k2 : ∀ k : Fin 256, kindF (opF (k.val : Int)) = 2 → (opF (k.val : Int)).1 ∈ [[76, 68, 65], [76, 68, 88], [76, 68, 89], [79, 82, 65], [65, 78, 68], [69, 79, 82], [65, 68, 67], [83, 66, 67], [67, 77, 80], [67, 80, 88], [67, 80, 89], [66, 73, 84]] := by decide +kernel
theorem k4 : ∀ k : Fin 256, kindF (opF (k.val : Int)) = 4 → (opF (k.val : Int)).1 ∈ [[73, 78, 67], [68, 69, 67]] ∨ ((opF (k.val : Int)).1 ∈ shNames ∧ (opF (k.val : Int)).2 ≠ 1) := by decide +kernel
theorem kx : ∀ k : Fin 256, (kindF (opF (k.val : Int)) = 7 → (opF (k.val : Int)).1 = [74, 83, 82]) ∧ (kindF (opF (k.val : Int)) = 8 → (opF (k.val : Int)).1 = [82, 84, 83]) ∧ (kindF (opF (k.val : Int)) = 9 → (opF (k.val : Int)).1 = [82, 84, 73]) ∧ (kindF (opF (k.val : Int)) = 10 → (opF (k.val : Int)).1 = [66, 82, 75]) ∧
    (kindF (opF (k.val : Int)) = 11 → (opF (k.val : Int)).1 = [80, 72, 65] ∨ (opF (k.val : Int)).1 = [80, 72, 80]) ∧ (kindF (opF (k.val : Int)) = 12 → (opF (k.val : Int)).1 = [80, 76, 65] ∨ (opF (k.val : Int)).1 = [80, 76, 80]) := by decide +kernel
theorem k3 : ∀ k : Fin 256, kindF (opF (k.val : Int)) = 3 → (opF (k.val : Int)).2 ≠ 2 := by decide +kernel
theorem chgOK_pc {t : List UInt8} {c d : Cp} (h : chgOK t c d) (p : Int) : chgOK t c { d with pc := p } := h
theorem chgOK_refl (t : List UInt8) (c : Cp) : chgOK t c c := ⟨.inl rfl, .inl rfl, .inl rfl, .inl rfl, .inl rfl, .inl rfl, .inl rfl, .inl rfl, .inl rfl, .inl rfl⟩
theorem imp_ok (l : List UInt8) (m : Int) (h : l ∈ [[73, 78, 88], [73, 78, 89], [68, 69, 88], [68, 69, 89], [84, 65, 88], [84, 88, 65], [84, 65, 89], [84, 89, 65], [84, 83, 88], [84, 88, 83], [67, 76, 67], [83, 69, 67], [67, 76, 73], [83, 69, 73], [67, 76, 68], [83, 69, 68], [67, 76, 86], [78, 79, 80]]) (c : Cp) : chgOK (chgF l m) c (impF l c) := by
  simp only [List.mem_cons, List.not_mem_nil, or_false] at h
  rcases h with rfl | rfl | rfl | rfl | rfl | rfl | rfl | rfl | rfl | rfl | rfl | rfl | rfl | rfl | rfl | rfl | rfl | rfl
  all_goals simp [chgOK, chgF, chgT, impF, nzF]
theorem sh_ok (l : List UInt8) (h : l ∈ shNames) (c : Cp) : chgOK (chgF l 1) c (impF l c) := by
  simp only [shNames, List.mem_cons, List.not_mem_nil, or_false] at h
  rcases h with rfl | rfl | rfl | rfl
  all_goals simp [chgOK, chgF, impF, doF, aslF, lsrF, rolF, rorF, movedF, nzF]
theorem sh2_ok (l : List UInt8) (m : Int) (hm : m ≠ 1) (h : l ∈ shNames) (v : Int) (c : Cp) : chgOK (chgF l m) c (doF l v c).2 := by
  simp only [shNames, List.mem_cons, List.not_mem_nil, or_false] at h
  rcases h with rfl | rfl | rfl | rfl
  all_goals simp [chgOK, chgF, hm, doF, aslF, lsrF, rolF, rorF, movedF, nzF]
theorem inc_ok (l : List UInt8) (m : Int) (h : l ∈ [[73, 78, 67], [68, 69, 67]]) (v : Int) (c : Cp) : chgOK (chgF l m) c (doF l v c).2 := by
  simp only [List.mem_cons, List.not_mem_nil, or_false] at h
  rcases h with rfl | rfl
  all_goals simp [chgOK, chgF, chgT, doF, nzF]
theorem adc_keep (a b : Int) (f : Fl) : (adcF a b f).2.d = f.d ∧ (adcF a b f).2.i = f.i := by
  unfold adcF
  split <;> exact ⟨rfl, rfl⟩
theorem sbc_keep (a b : Int) (f : Fl) : (sbcF a b f).2.d = f.d ∧ (sbcF a b f).2.i = f.i := by
  have h := adc_keep a (255 - b) { f with d := false }
  unfold sbcF
  split <;> exact ⟨rfl, h.2⟩
theorem rd_ok (l : List UInt8) (m : Int) (h : l ∈ [[76, 68, 65], [76, 68, 88], [76, 68, 89], [79, 82, 65], [65, 78, 68], [69, 79, 82], [65, 68, 67], [83, 66, 67], [67, 77, 80], [67, 80, 88], [67, 80, 89], [66, 73, 84]]) (v : Int) (c : Cp) : chgOK (chgF l m) c (doF l v c).2 := by
  have h1 := adc_keep c.a v c.f
  have h2 := sbc_keep c.a v c.f
  simp only [List.mem_cons, List.not_mem_nil, or_false] at h
  rcases h with rfl | rfl | rfl | rfl | rfl | rfl | rfl | rfl | rfl | rfl | rfl | rfl
  all_goals simp [chgOK, chgF, chgT, doF, nzF, cmpF, bitTestF, h1, h2]
theorem oper_c (kind mode : Int) (l : List UInt8) (m : Ms) : (operF kind mode l m).c = (if mode = 2 then (doF l (m.look (u16 (m.c.pc + 1))) m.c).2 else if kind = 2 then (doF l ((placeF mode kind m).2.look (placeF mode kind m).1) m.c).2 else if kind = 3 then m.c else (doF l ((placeF mode kind m).2.look (placeF mode kind m).1) m.c).2) := by
  have hp := place_cpu mode kind m
  unfold operF
  split
  · rfl
  · split
    · show (doF l _ (placeF mode kind m).2.c).2 = _
      rw [hp]
    · split
      · exact hp
      · show (doF l _ (placeF mode kind m).2.c).2 = _
        rw [hp]
theorem stepBy_ok (k : Fin 256) (m : Ms) : chgOK (chgF (opF (k.val : Int)).1 (opF (k.val : Int)).2) m.c (stepBy (opF (k.val : Int)) m).c := by
  have e1 := k1 k
  have e2 := k2 k
  have e4 := k4 k
  have e3 := k3 k
  have ex := kx k
  generalize opF (k.val : Int) = r at *
  unfold stepBy
  by_cases c1 : kindF r = 1
  · rw [if_pos c1]
    rcases e1 c1 with h | ⟨h, hm⟩
    · exact imp_ok _ _ h m.c
    · rw [hm]
      exact sh_ok _ h m.c
  rw [if_neg c1]
  by_cases c2 : kindF r = 2 ∨ kindF r = 3 ∨ kindF r = 4
  · rw [if_pos c2]
    show chgOK _ _ { (operF (kindF r) r.2 r.1 m).c with pc := _ }
    refine chgOK_pc ?_ _
    rw [oper_c]
    have hd : ∀ v, kindF r ≠ 3 → chgOK (chgF r.1 r.2) m.c (doF r.1 v m.c).2 := by
      intro v h3
      rcases c2 with h | h | h
      · exact rd_ok _ _ (e2 h) v m.c
      · exact absurd h h3
      · rcases e4 h with h' | ⟨h', hm⟩
        · exact inc_ok _ _ h' v m.c
        · exact sh2_ok _ _ hm h' v m.c
    split
    · rename_i hm
      exact hd _ (fun h => e3 h hm)
    · split
      · rename_i h2
        exact hd _ (by omega)
      · split
        · exact chgOK_refl _ _
        · rename_i h3
          exact hd _ h3
  rw [if_neg c2]
  by_cases c3 : kindF r = 11
  · rw [if_pos c3]
    rcases ex.2.2.2.2.1 c3 with h | h <;> rw [h] <;> simp [chgOK, chgF, chgT, pushF, Ms.on, Ms.setPC, Ms.push, Ms.push1, Ms.write, Ms.read]
  rw [if_neg c3]
  by_cases c4 : kindF r = 12
  · rw [if_pos c4]
    rcases ex.2.2.2.2.2 c4 with h | h <;> rw [h] <;> simp [chgOK, chgF, chgT, pullF, pullM, Ms.on, Ms.setPC, Ms.setS, Ms.setF, Ms.do_, doF, nzF, Ms.read]
  rw [if_neg c4]
  unfold flowF
  by_cases c5 : kindF r = 5
  · rw [if_pos c5]
    unfold branchF
    split
    · split <;> exact chgOK_refl _ _
    · exact chgOK_refl _ _
  rw [if_neg c5]
  by_cases c6 : kindF r = 6
  · rw [if_pos c6]
    unfold jumpF
    split <;> exact chgOK_refl _ _
  rw [if_neg c6]
  by_cases c7 : kindF r = 7
  · rw [if_pos c7, ex.1 c7]
    simp [chgOK, chgF, chgT, subF, subPush, Ms.setPC, Ms.push, Ms.push1, Ms.write, Ms.read]
  rw [if_neg c7]
  by_cases c8 : kindF r = 8
  · rw [if_pos c8, ex.2.1 c8]
    simp [chgOK, chgF, chgT, backF, Ms.setPC, Ms.setS, Ms.read2, Ms.read]
  rw [if_neg c8]
  by_cases c9 : kindF r = 9
  · rw [if_pos c9, ex.2.2.1 c9]
    simp [chgOK, chgF, chgT, rtiF, Ms.setPC, Ms.setS, Ms.setF, Ms.read2, Ms.read]
  rw [if_neg c9]
  by_cases c10 : kindF r = 10
  · rw [if_pos c10, ex.2.2.2.1 c10]
    simp [chgOK, chgF, chgT, brkF, vecF, Ms.setPC, Ms.setF, Ms.push, Ms.push1, Ms.write, Ms.read2, Ms.read]
  rw [if_neg c10]
  exact chgOK_refl _ _
theorem step_chg (c : Cp) (xs : List Int) (hx : Byt xs) : chgOK (changesF (rd xs (c.pc % (xs.length : Int)))) c (StepF c xs).c := by
  have hb := hx.rd (c.pc % (xs.length : Int))
  unfold StepF
  split
  · exact chgOK_refl _ _
  · unfold stepF changesF
    rw [show Ms.look ⟨c, xs, []⟩ c.pc = rd xs (c.pc % (xs.length : Int)) from rfl]
    obtain ⟨k, hk⟩ := Int.eq_ofNat_of_zero_le hb.1
    rw [hk]
    exact stepBy_ok ⟨k, by omega⟩ _
end Go.Proofs.YtemahcjglmhefaaGreatDoor
