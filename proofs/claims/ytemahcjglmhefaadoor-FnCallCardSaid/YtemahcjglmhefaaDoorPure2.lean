/- The machine's plain functions: reads, writes, operations; no program in sight. No condition. -/
import Derived.Test.YtemahcjglmhefaaDoorPure
import Derived.Test.YtemahcjglmhefaaDoorBase
namespace Go.Proofs.YtemahcjglmhefaaDoor

def Ms.look (m : Ms) (ad : Int) : Int := rd m.ram (ad % (m.ram.length : Int))
def Ms.read (m : Ms) (ad : Int) : Ms := { m with cy := m.cy ++ [⟨ad, m.look ad, false⟩] }
def Ms.write (m : Ms) (ad v : Int) : Ms := { m with ram := m.ram.set (ad % (m.ram.length : Int)).toNat v, cy := m.cy ++ [⟨ad, v, true⟩] }
theorem Ms.look_ok {m : Ms} (h : Byt m.ram) (ad : Int) : 0 ≤ m.look ad ∧ m.look ad < 256 := h.rd _
theorem Byt.set {xs : List Int} (h : Byt xs) (i : Nat) {v : Int} (hv : 0 ≤ v ∧ v < 256) : Byt (xs.set i v) := by
  intro x hx
  rcases List.mem_or_eq_of_mem_set hx with h1 | h1
  · exact h x h1
  · rw [h1]; exact hv
def Ms.read2 (m : Ms) (a b : Int) : Ms := (m.read a).read b
def Ms.word (m : Ms) (a b : Int) : Int := m.look b * 256 + m.look a
def Ms.push1 (m : Ms) (v : Int) : Ms := { m.write (256 + m.c.s) v with c := { m.c with s := (m.c.s - 1) % 256 } }
def Ms.push (m : Ms) (l : List Int) : Ms := l.foldl Ms.push1 m
theorem Ms.push_snoc (m : Ms) (l : List Int) (v : Int) : m.push (l ++ [v]) = (m.push l).push1 v := by simp [Ms.push]
theorem Ms.push_cy (m : Ms) (l : List Int) : (m.push l).cy.length = m.cy.length + l.length := by
  induction l generalizing m with
  | nil => rfl
  | cons v l ih => simp only [Ms.push, List.foldl_cons] at ih ⊢; rw [ih]; simp [Ms.push1, Ms.write]; omega
end Go.Proofs.YtemahcjglmhefaaDoor
