/- A step's cycles begin with the first read, in plain words. No condition. -/
import Derived.Test.YtemahcjglmhefaaGreatDoorKOp
import Derived.Test.YtemahcjglmhefaaGreatDoorKPlace
namespace Go.Proofs.YtemahcjglmhefaaGreatDoor
set_option linter.unusedVariables false
set_option linter.unusedSimpArgs false
def Pre (m k : Ms) : Prop := ∃ l, k.cy = m.cy ++ l
theorem Pre.refl (m : Ms) : Pre m m := ⟨[], by simp⟩
theorem Pre.trans {a b c : Ms} (h : Pre a b) (k : Pre b c) : Pre a c := by
  obtain ⟨l, hl⟩ := h
  obtain ⟨r, hr⟩ := k
  exact ⟨l ++ r, by rw [hr, hl, List.append_assoc]⟩
theorem Pre.read {m k : Ms} (h : Pre m k) (a : Int) : Pre m (k.read a) := h.trans ⟨_, rfl⟩
theorem Pre.write {m k : Ms} (h : Pre m k) (a v : Int) : Pre m (k.write a v) := h.trans ⟨_, rfl⟩
theorem Pre.read2 {m k : Ms} (h : Pre m k) (a b : Int) : Pre m (k.read2 a b) := (h.read a).read b
theorem Pre.setPC {m k : Ms} (h : Pre m k) (v : Int) : Pre m (k.setPC v) := h
theorem Pre.setS {m k : Ms} (h : Pre m k) (v : Int) : Pre m (k.setS v) := h
theorem Pre.setF {m k : Ms} (h : Pre m k) (v : Fl) : Pre m (k.setF v) := h
theorem Pre.do_ {m k : Ms} (h : Pre m k) (l : List UInt8) (v : Int) : Pre m (k.do_ l v) := h
theorem Pre.imp {m k : Ms} (h : Pre m k) (l : List UInt8) : Pre m (k.imp l) := h
theorem Pre.on {m k : Ms} (h : Pre m k) (v : Int) : Pre m (k.on v) := h
theorem Pre.push {m k : Ms} (h : Pre m k) (l : List Int) : Pre m (k.push l) := by
  induction l generalizing k with
  | nil => exact h
  | cons v l ih => exact ih (k := k.push1 v) (h.trans ⟨_, rfl⟩)
theorem Pre.vec {m k : Ms} (h : Pre m k) (a b : Int) : Pre m (vecF k a b) := ((h.read2 a b).setPC _).setF _
theorem Pre.placeEnd {m k : Ms} (h : Pre m k) (kind b e : Int) : Pre m (placeEnd kind b e k).2 := by
  unfold Go.Proofs.YtemahcjglmhefaaGreatDoor.placeEnd
  split
  · exact h.read _
  · exact h
theorem Pre.place {m k : Ms} (h : Pre m k) (mode kind : Int) : Pre m (placeF mode kind k).2 := by
  unfold placeF
  split
  · exact h.read _
  split
  · exact (h.read _).read _
  split
  · exact (h.read _).read _
  split
  · exact ((h.read _).read _).read2 _ _
  split
  · exact ((h.read _).read2 _ _).placeEnd _ _ _
  split
  · exact h.read2 _ _
  split
  · exact (h.read2 _ _).placeEnd _ _ _
  · exact (h.read2 _ _).placeEnd _ _ _
theorem Pre.oper {m k : Ms} (h : Pre m k) (kind mode : Int) (l : List UInt8) : Pre m (operF kind mode l k) := by
  have hp := h.place mode kind
  unfold operF
  split
  · exact (h.read _).do_ _ _
  split
  · exact (hp.read _).do_ _ _
  split
  · exact hp.write _ _
  · exact (((hp.read _).write _ _).do_ _ _).write _ _
theorem Pre.branch {m k : Ms} (h : Pre m k) (l : List UInt8) : Pre m (branchF l k) := by
  unfold branchF
  split
  · split
    · exact ((((h.read _).setPC _).read _).read _).setPC _
    · exact (((h.read _).setPC _).read _).setPC _
  · exact (h.read _).setPC _
theorem Pre.flow {m k : Ms} (h : Pre m k) (kind mode : Int) (l : List UInt8) : Pre m (flowF kind mode l k) := by
  unfold flowF
  split
  · exact h.branch l
  split
  · unfold jumpF
    split
    · exact ((h.read2 _ _).read2 _ _).setPC _
    · exact (h.read2 _ _).setPC _
  split
  · exact ((((h.read _).read _).push _).read _).setPC _
  split
  · exact (((((h.read _).read _).read2 _ _).read _).setPC _).setS _
  split
  · exact ((((((h.read _).read _).read _).setF _).read2 _ _).setPC _).setS _
  split
  · exact ((h.read _).push _).vec _ _
  · exact h
theorem stepBy_pre (r : List UInt8 × Int) (m : Ms) : Pre m (stepBy r m) := by
  have h := Pre.refl m
  unfold stepBy
  split
  · exact ((h.read _).imp _).on _
  split
  · exact (h.oper _ _ _).on _
  split
  · exact ((h.read _).push _).on _
  split
  · refine Pre.on ?_ _
    unfold pullF
    split
    · exact ((((h.read _).read _).setS _).read _).do_ _ _
    · exact ((((h.read _).read _).setS _).read _).setF _
  · exact h.flow _ _ _
theorem stepF_first (c : Cp) (xs : List Int) : ∃ l, (stepF ⟨c, xs, []⟩).cy = ⟨c.pc, rd xs (c.pc % (xs.length : Int)), false⟩ :: l := by
  obtain ⟨l, hl⟩ := stepBy_pre (opF ((⟨c, xs, []⟩ : Ms).look c.pc)) ((⟨c, xs, []⟩ : Ms).read c.pc)
  exact ⟨l, by unfold stepF; rw [hl]; rfl⟩
end Go.Proofs.YtemahcjglmhefaaGreatDoor
