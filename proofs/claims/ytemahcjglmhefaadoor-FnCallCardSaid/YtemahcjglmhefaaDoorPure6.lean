/- Places: they leave the registers and the memory alone, and lie in range. No condition. -/
import Derived.Test.YtemahcjglmhefaaDoorPure5
namespace Go.Proofs.YtemahcjglmhefaaDoor

theorem placeEnd_len (kind b e : Int) (m : Ms) : (placeEnd kind b e m).2.cy.length ≤ m.cy.length + 1 := by
  unfold placeEnd
  split <;> simp [Ms.read]
theorem place_len (mode kind : Int) (m : Ms) : (placeF mode kind m).2.cy.length ≤ m.cy.length + 4 := by
  have h : ∀ k b e (q : Ms), q.cy.length ≤ m.cy.length + 3 → (placeEnd k b e q).2.cy.length ≤ m.cy.length + 4 := fun k b e q hq => Nat.le_trans (placeEnd_len k b e q) (by omega)
  unfold placeF
  repeat' split
  all_goals first | (apply h; simp [Ms.read, Ms.read2]; done) | (simp [Ms.read, Ms.read2]; done)
theorem placeEnd_cpu (kind b e : Int) (m : Ms) : (placeEnd kind b e m).2.c = m.c ∧ (placeEnd kind b e m).2.ram = m.ram := by
  unfold placeEnd
  split <;> exact ⟨rfl, rfl⟩
theorem place_same (mode kind : Int) (m : Ms) : (placeF mode kind m).2.c = m.c ∧ (placeF mode kind m).2.ram = m.ram := by
  unfold placeF
  repeat' split
  all_goals first | exact ⟨rfl, rfl⟩ | exact placeEnd_cpu _ _ _ _
theorem place_cpu (mode kind : Int) (m : Ms) : (placeF mode kind m).2.c = m.c := (place_same mode kind m).1
theorem placeEnd_ok (kind b e : Int) (m : Ms) (he : 0 ≤ e ∧ e < 65536) : 0 ≤ (placeEnd kind b e m).1 ∧ (placeEnd kind b e m).1 < 65536 := by
  unfold placeEnd
  split <;> exact he
theorem lt16 {x : Int} (h : 0 ≤ x ∧ x < 256) : 0 ≤ x ∧ x < 65536 := by omega
theorem place_ok {m : Ms} (hb : Byt m.ram) (hc : m.c.ok) (mode kind : Int) (_hm : mode = 3 ∨ mode = 4 ∨ mode = 5 ∨ mode = 6 ∨ mode = 7 ∨ mode = 8 ∨ mode = 10 ∨ mode = 11) : 0 ≤ (placeF mode kind m).1 ∧ (placeF mode kind m).1 < 65536 := by
  unfold placeF
  repeat' split
  all_goals first | exact lt16 (Ms.look_ok hb _) | exact lt16 (u8_ok _) | exact word_ok hb _ _ | exact placeEnd_ok _ _ _ _ (u16_ok _)
end Go.Proofs.YtemahcjglmhefaaDoor
