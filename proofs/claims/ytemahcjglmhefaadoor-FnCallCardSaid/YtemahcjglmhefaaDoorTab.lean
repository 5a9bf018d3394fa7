/- What is true of all bytes, by the table. No condition. -/
import Derived.Test.YtemahcjglmhefaaDoorPure5
namespace Go.Proofs.YtemahcjglmhefaaDoor

def placeMode (m : Int) : Bool := m == 3 || m == 4 || m == 5 || m == 6 || m == 7 || m == 8 || m == 10 || m == 11
def okOp (r : List UInt8 × Int) : Bool :=
  let k := kindF r
  (k == 0 && r.1 == []) || k == 1 || (k == 2 && (r.2 == 2 || placeMode r.2)) || (k == 3 && placeMode r.2 && (r.1 == [83, 84, 65] || r.1 == [83, 84, 88] || r.1 == [83, 84, 89])) || (k == 4 && placeMode r.2) || k == 5 || k == 6 || k == 7 || k == 8 || k == 9 || k == 10 || k == 11 || k == 12
theorem opTab : ∀ k : Fin 256, okOp (opF (k.val : Int)) = true := by decide +kernel
theorem placeMode_iff (m : Int) : placeMode m = true ↔ (m = 3 ∨ m = 4 ∨ m = 5 ∨ m = 6 ∨ m = 7 ∨ m = 8 ∨ m = 10 ∨ m = 11) := by
  unfold placeMode
  simp [or_assoc]
theorem op_cases (code : Int) (h0 : 0 ≤ code) (h1 : code < 256) (hne : (opF code).1 ≠ []) :
    kindF (opF code) = 1 ∨ (kindF (opF code) = 2 ∧ ((opF code).2 = 2 ∨ placeMode (opF code).2 = true)) ∨ (kindF (opF code) = 3 ∧ placeMode (opF code).2 = true ∧ ((opF code).1 = [83, 84, 65] ∨ (opF code).1 = [83, 84, 88] ∨ (opF code).1 = [83, 84, 89])) ∨
    (kindF (opF code) = 4 ∧ placeMode (opF code).2 = true) ∨ kindF (opF code) = 11 ∨ kindF (opF code) = 12 ∨
    (kindF (opF code) = 5 ∨ kindF (opF code) = 6 ∨ kindF (opF code) = 7 ∨ kindF (opF code) = 8 ∨ kindF (opF code) = 9 ∨ kindF (opF code) = 10) := by
  obtain ⟨m, rfl⟩ := Int.eq_ofNat_of_zero_le h0
  have h := opTab ⟨m, by omega⟩
  simp only [okOp, Bool.or_eq_true, Bool.and_eq_true, beq_iff_eq] at h
  generalize opF (m : Int) = r at *
  rcases h with (((((((((((h | h) | h) | h) | h) | h) | h) | h) | h) | h) | h) | h) | h
  · exact absurd h.2 hne
  · exact .inl h
  · exact .inr (.inl h)
  · exact .inr (.inr (.inl ⟨h.1.1, h.1.2, by rcases h.2 with (h | h) | h <;> simp [h]⟩))
  · exact .inr (.inr (.inr (.inl h)))
  all_goals simp [h]
theorem size_ok (m : Int) : 0 ≤ sizeF m ∧ sizeF m ≤ 3 := by
  unfold sizeF
  repeat' split
  all_goals omega
end Go.Proofs.YtemahcjglmhefaaDoor
