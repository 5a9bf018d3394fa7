/- The draw's cursor: its block, and what a draw of a number keeps. No condition. -/
import Derived.Test.YtemahcjglmhefaaDoorTab
import Derived.Handy
namespace Go.Proofs.YtemahcjglmhefaaDoor
open Go.RowKit
attribute [local irreducible] World.setCell

/-- The cursor at block cb, over the bytes xs of the world w0. -/
def Cur (w0 : World) (A : Option Addr) (n cap : Nat) (xs : List Int) (cb : Nat) (w : World) : Prop :=
  w0.heap.size ≤ cb ∧ Below w0.heap.size w0 w ∧ Rds w0 .u8 A n xs ∧ Byt xs ∧ ∃ i h : Int, 0 ≤ i ∧ i ≤ n ∧ Bk w cb 68 #[.slice A n cap, .int .i64 i, .int .i64 h]
section
variable {w0 w w' : World} {A : Option Addr} {n cap : Nat} {xs : List Int} {cb : Nat}
theorem Cur.later (h : Cur w0 A n cap xs cb w) (hb : Below w.heap.size w w') : Cur w0 A n cap xs cb w' := by
  obtain ⟨h1, h2, h3, h4, i, q, h5, h6, h7⟩ := h
  exact ⟨h1, Bl.then_ h2 (Nat.le_trans h1 (Nat.le_of_lt h7.lt)) hb, h3, h4, i, q, h5, h6, h7.later hb⟩
theorem Cur.lt (h : Cur w0 A n cap xs cb w) : cb < w.heap.size := by
  obtain ⟨h1, h2, h3, h4, i, q, h5, h6, h7⟩ := h
  exact h7.lt
theorem Cur.lo (h : Cur w0 A n cap xs cb w) : w0.heap.size ≤ cb := h.1
theorem Cur.rds (h : Cur w0 A n cap xs cb w) : Rds w .u8 A n xs := h.2.2.1.later h.2.1
theorem Cur.gl (h : Cur w0 A n cap xs cb w) (hg : Gl w0) (hG : 4 ≤ w0.heap.size) : Gl w := hg.below h.2.1 hG
end
theorem grown_refl (w : World) (r : Option Nat) : w.grownBy w r := ⟨rfl, rfl, rfl, Nat.le_refl _, fun _ _ _ => rfl⟩
theorem grown_trans {a b c : World} {r : Option Nat} (h : a.grownBy b r) (k : b.grownBy c r) : a.grownBy c r :=
  ⟨k.os.trans h.os, k.tape.trans h.tape, k.output.trans h.output, Nat.le_trans h.size k.size, fun i hi hr => (k.block i (Nat.lt_of_lt_of_le hi h.size) hr).trans (h.block i hi hr)⟩
theorem grown_of {w w' : World} (r : Option Nat) (hb : Below w.heap.size w w') : w.grownBy w' r := ⟨hb.os, hb.tape, hb.output, hb.size, fun i hi _ => hb.block i hi⟩
theorem grown_put (w : World) (cb i : Nat) (v : Value) : w.grownBy (w.setCell ⟨cb, i, none⟩ v) (some cb) :=
  ⟨by simp [World.setCell], by simp [World.setCell], by simp [World.setCell], by simp [World.setCell], fun k hk hr => Below.heap_setCell w ⟨cb, i, none⟩ v k (fun e => hr (by simp [e]))⟩
theorem add_block (a : Addr) (k : Nat) : (a.add k).block = a.block := by
  unfold Addr.add
  split <;> rfl
theorem and255 (n : Int) : bits .and .i64 n 255 = n % 256 := by
  have h255 : (BitVec.ofInt 64 255).toNat = 2 ^ 8 - 1 := by decide
  have key : (BitVec.ofInt 64 n &&& BitVec.ofInt 64 255).toNat = (n % ((2 ^ 64 : Nat) : Int)).toNat % 2 ^ 8 := by
    rw [BitVec.toNat_and, BitVec.toNat_ofInt, h255, Nat.and_two_pow_sub_one_eq_mod]
  show IntKind.i64.wrap ((BitVec.ofInt 64 n &&& BitVec.ofInt 64 255).toNat : Nat) = n % 256
  rw [key, IntKind.wrap_i64]
  omega
theorem Cur.after {w0 w w' : World} {A : Option Addr} {n cap : Nat} {xs : List Int} {cb : Nat} (hc : Cur w0 A n cap xs cb w) (hg : w.grownBy w' (some cb)) (h : ∃ i q : Int, 0 ≤ i ∧ i ≤ n ∧ Bk w' cb 68 #[.slice A n cap, .int .i64 i, .int .i64 q]) : Cur w0 A n cap xs cb w' := by
  have hl := hc.lt
  obtain ⟨h1, h2, h3, h4, _⟩ := hc
  exact ⟨h1, h2.grown hg (by omega) (fun k hk => by injection hk with hk; omega), h3, h4, h⟩
theorem grown_drew {w w' : World} {r : Option Nat} (h : w.grownBy w' r) : w.grownBy w'.drew r := ⟨h.os, h.tape, h.output, h.size, h.block⟩
set_option maxHeartbeats 1000000 in
theorem l01Byte_c (w0 : World) (A : Option Addr) (n cap : Nat) (xs : List Int) (cb : Nat) (w : World) (hc : Cur w0 A n cap xs cb w) :
    Calls Tryd.prog 57 #[.pointer (some ⟨cb, 0, none⟩)] w fun e w' => ∃ x : Int, (0 ≤ x ∧ x < 256) ∧ e = .returned (.int .i64 x) ∧ Cur w0 A n cap xs cb w' ∧ w.grownBy w' (some cb) := by
  have HC := Lib.hid hc
  have hr := hc.rds
  have hlo := hc.lo
  obtain ⟨h1, h2, h3, h4, i, q, h5, h6, h7⟩ := hc
  have c := h7.cell
  have f := h7.frozen
  have hlt := h7.lt
  have hcell : i < n → ∃ ad, A = some ad ∧ ad.block ≠ cb ∧ w.cell? (ad.add i.toNat) = some (.int .u8 (rd xs i)) := by
    intro hi
    obtain ⟨ad, e, hk⟩ := h3.at_ i h5 (by omega)
    have hb := World.block_lt_of_cell? _ _ hk
    rw [add_block] at hb
    exact ⟨ad, e, by omega, (h2.cell (p := ad.add i.toNat) (by rw [add_block]; exact hb)).trans hk⟩
  have HK := Lib.hid h7
  clear h1 h2 h3 h7
  go_enter Tryd.func57, Tryd.ntmps57
  go_wp2
  go_region
  go_wp2
  go_region
  go_wp2
  · obtain ⟨ad, rfl, hne, hk⟩ := hcell (by assumption)
    have hk2 : ∀ v, (w.setCell ⟨cb, 2, none⟩ v).cell? (ad.add i.toNat) = some (.int .u8 (rd xs i)) := fun v => (World.cell?_setCell_other _ _ _ _ (fun e => hne ((add_block ad i.toNat).symm.trans (congrArg Addr.block e.symm)))).trans hk
    have hx := h4.rd i
    generalize rd xs i = x at *
    clear hcell hk
    go_region
    go_wp2
    go_returns
    refine ⟨_, ?_, rfl, Cur.after HC.out ?hg ⟨i + 1, wrap64 (wrap64 (q * 6364136223846793005) + 1442695040888963407), by omega, by omega, ?_⟩, ?hg⟩
    case hg => repeat first | exact grown_refl _ _ | apply grown_drew | (refine grown_trans ?_ (grown_put _ _ _ _))
    · rw [and255]; omega
    · have hw : wrap64 (i + 1) = i + 1 := by have := hr.2.1; unfold wrap64; omega
      have hb := (((HK.out.put 2 (.int .i64 (wrap64 (wrap64 (q * 6364136223846793005) + 1442695040888963407)))).put 1 (.int .i64 (wrap64 (i + 1)))).drew.drew.drew)
      rw [hw] at hb ⊢
      exact hb
  · go_returns
    refine ⟨_, ?_, rfl, Cur.after HC.out ?hg ⟨i, wrap64 (wrap64 (q * 6364136223846793005) + 1442695040888963407), h5, h6, ?_⟩, ?hg⟩
    case hg => repeat first | exact grown_refl _ _ | apply grown_drew | (refine grown_trans ?_ (grown_put _ _ _ _))
    · rw [and255]; omega
    · exact (HK.out.put 2 _).drew.drew
end Go.Proofs.YtemahcjglmhefaaDoor
