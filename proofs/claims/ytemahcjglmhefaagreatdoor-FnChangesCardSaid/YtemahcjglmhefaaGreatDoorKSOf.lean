/- The draw's cursor: its block, and what a draw of a number keeps. No condition. Draws of numbers. No condition. The reference's names, modes, sizes and kinds, by the program's table. No condition. Draws of bytes, flags, places and registers. No condition. Draws of operations' bytes. No condition. -/
import Derived.Test.YtemahcjglmhefaaGreatDoorKOp
import Derived.Handy
import Derived.Deep.RegionHeld3
import Derived.Test.YtemahcjglmhefaaGreatDoorKSZero
import Derived.Test.YtemahcjglmhefaaGreatDoorKSOne
import Derived.Test.YtemahcjglmhefaaGreatDoorKSTwo
namespace Go.Proofs.YtemahcjglmhefaaGreatDoor
set_option linter.unusedVariables false
set_option linter.unusedSimpArgs false
open Go.RowKit
attribute [local irreducible] World.setCell

/-- The cursor at block cb, over the bytes xs of the world w0. -/
def Cur (w0 : World) (A : Option Addr) (n cap : Nat) (xs : List Int) (cb : Nat) (w : World) : Prop :=
  w0.heap.size ≤ cb ∧ Below w0.heap.size w0 w ∧ Rds w0 .u8 A n xs ∧ Byt xs ∧ ∃ i h : Int, 0 ≤ i ∧ i ≤ n ∧ Bk w cb 73 #[.slice A n cap, .int .i64 i, .int .i64 h]
section
variable {w0 w w' : World} {A : Option Addr} {n cap : Nat} {xs : List Int} {cb : Nat}
theorem Cur.later (h : Cur w0 A n cap xs cb w) (hb : Below w.heap.size w w') : Cur w0 A n cap xs cb w' := by
  obtain ⟨h1, h2, h3, h4, i, q, h5, h6, h7⟩ := h
  exact ⟨h1, Bl.then_ h2 (Nat.le_trans h1 (Nat.le_of_lt h7.lt)) hb, h3, h4, i, q, h5, h6, h7.later hb⟩
theorem Cur.lt (h : Cur w0 A n cap xs cb w) : cb < w.heap.size := by
  obtain ⟨h1, h2, h3, h4, i, q, h5, h6, h7⟩ := h
  exact h7.lt
theorem Cur.lo (h : Cur w0 A n cap xs cb w) : w0.heap.size ≤ cb := h.1
theorem Cur.rds (h : Cur w0 A n cap xs cb w) : Rds w .u8 A n xs := h.2.2.1.later h.2.1
theorem Cur.gl (h : Cur w0 A n cap xs cb w) (hg : Gl w0) (hG : 4 ≤ w0.heap.size) : Gl w := hg.below h.2.1 hG
end
theorem grown_refl (w : World) (r : Option Nat) : w.grownBy w r := ⟨rfl, rfl, rfl, Nat.le_refl _, fun _ _ _ => rfl⟩
theorem grown_trans {a b c : World} {r : Option Nat} (h : a.grownBy b r) (k : b.grownBy c r) : a.grownBy c r :=
  ⟨k.os.trans h.os, k.tape.trans h.tape, k.output.trans h.output, Nat.le_trans h.size k.size, fun i hi hr => (k.block i (Nat.lt_of_lt_of_le hi h.size) hr).trans (h.block i hi hr)⟩
theorem grown_of {w w' : World} (r : Option Nat) (hb : Below w.heap.size w w') : w.grownBy w' r := ⟨hb.os, hb.tape, hb.output, hb.size, fun i hi _ => hb.block i hi⟩
theorem grown_put (w : World) (cb i : Nat) (v : Value) : w.grownBy (w.setCell ⟨cb, i, none⟩ v) (some cb) :=
  ⟨by simp [World.setCell], by simp [World.setCell], by simp [World.setCell], by simp [World.setCell], fun k hk hr => Below.heap_setCell w ⟨cb, i, none⟩ v k (fun e => hr (by simp [e]))⟩
theorem add_block (a : Addr) (k : Nat) : (a.add k).block = a.block := by
  unfold Addr.add
  split <;> rfl
theorem and255 (n : Int) : bits .and .i64 n 255 = n % 256 := by
  have h255 : (BitVec.ofInt 64 255).toNat = 2 ^ 8 - 1 := by decide
  have key : (BitVec.ofInt 64 n &&& BitVec.ofInt 64 255).toNat = (n % ((2 ^ 64 : Nat) : Int)).toNat % 2 ^ 8 := by
    rw [BitVec.toNat_and, BitVec.toNat_ofInt, h255, Nat.and_two_pow_sub_one_eq_mod]
  show IntKind.i64.wrap ((BitVec.ofInt 64 n &&& BitVec.ofInt 64 255).toNat : Nat) = n % 256
  rw [key, IntKind.wrap_i64]
  omega
theorem Cur.after {w0 w w' : World} {A : Option Addr} {n cap : Nat} {xs : List Int} {cb : Nat} (hc : Cur w0 A n cap xs cb w) (hg : w.grownBy w' (some cb)) (h : ∃ i q : Int, 0 ≤ i ∧ i ≤ n ∧ Bk w' cb 73 #[.slice A n cap, .int .i64 i, .int .i64 q]) : Cur w0 A n cap xs cb w' := by
  have hl := hc.lt
  obtain ⟨h1, h2, h3, h4, _⟩ := hc
  exact ⟨h1, h2.grown hg (by omega) (fun k hk => by injection hk with hk; omega), h3, h4, h⟩
theorem grown_drew {w w' : World} {r : Option Nat} (h : w.grownBy w' r) : w.grownBy w'.drew r := ⟨h.os, h.tape, h.output, h.size, h.block⟩
set_option maxHeartbeats 1000000 in
theorem l01Byte_c (w0 : World) (A : Option Addr) (n cap : Nat) (xs : List Int) (cb : Nat) (w : World) (hc : Cur w0 A n cap xs cb w) :
    Calls Tryz.prog 72 #[.pointer (some ⟨cb, 0, none⟩)] w fun e w' => ∃ x : Int, (0 ≤ x ∧ x < 256) ∧ e = .returned (.int .i64 x) ∧ Cur w0 A n cap xs cb w' ∧ w.grownBy w' (some cb) := by
  have HC := Lib.hid hc
  have hr := hc.rds
  have hlo := hc.lo
  obtain ⟨h1, h2, h3, h4, i, q, h5, h6, h7⟩ := hc
  have c := h7.cell
  have f := h7.frozen
  have hlt := h7.lt
  have hcell : i < n → ∃ ad, A = some ad ∧ ad.block ≠ cb ∧ w.cell? (ad.add i.toNat) = some (.int .u8 (rd xs i)) := by
    intro hi
    obtain ⟨ad, e, hk⟩ := h3.at_ i h5 (by omega)
    have hb := World.block_lt_of_cell? _ _ hk
    rw [add_block] at hb
    exact ⟨ad, e, by omega, (h2.cell (p := ad.add i.toNat) (by rw [add_block]; exact hb)).trans hk⟩
  have HK := Lib.hid h7
  clear h1 h2 h3 h7
  go_enter Tryz.func72, Tryz.ntmps72
  go_wp2
  go_region
  go_wp2
  go_region
  go_wp2
  · obtain ⟨ad, rfl, hne, hk⟩ := hcell (by assumption)
    have hk2 : ∀ v, (w.setCell ⟨cb, 2, none⟩ v).cell? (ad.add i.toNat) = some (.int .u8 (rd xs i)) := fun v => (World.cell?_setCell_other _ _ _ _ (fun e => hne ((add_block ad i.toNat).symm.trans (congrArg Addr.block e.symm)))).trans hk
    have hx := h4.rd i
    generalize rd xs i = x at *
    clear hcell hk
    go_region
    go_wp2
    go_returns
    refine ⟨_, ?_, rfl, Cur.after HC.out ?hg ⟨i + 1, wrap64 (wrap64 (q * 6364136223846793005) + 1442695040888963407), by omega, by omega, ?_⟩, ?hg⟩
    case hg => repeat first | exact grown_refl _ _ | apply grown_drew | (refine grown_trans ?_ (grown_put _ _ _ _))
    · rw [and255]; omega
    · have hw : wrap64 (i + 1) = i + 1 := by have := hr.2.1; unfold wrap64; omega
      have hb := (((HK.out.put 2 (.int .i64 (wrap64 (wrap64 (q * 6364136223846793005) + 1442695040888963407)))).put 1 (.int .i64 (wrap64 (i + 1)))).drew.drew.drew)
      rw [hw] at hb ⊢
      exact hb
  · go_returns
    refine ⟨_, ?_, rfl, Cur.after HC.out ?hg ⟨i, wrap64 (wrap64 (q * 6364136223846793005) + 1442695040888963407), h5, h6, ?_⟩, ?hg⟩
    case hg => repeat first | exact grown_refl _ _ | apply grown_drew | (refine grown_trans ?_ (grown_put _ _ _ _))
    · rw [and255]; omega
    · exact (HK.out.put 2 _).drew.drew
end Go.Proofs.YtemahcjglmhefaaGreatDoor
namespace Go.Proofs.YtemahcjglmhefaaGreatDoor
set_option linter.unusedVariables false
set_option linter.unusedSimpArgs false
open Go.RowKit
attribute [local irreducible] World.setCell

/-- What a draw by the cursor keeps. -/
def CurOut (w0 : World) (A : Option Addr) (n cap : Nat) (xs : List Int) (cb : Nat) (w w' : World) : Prop := Cur w0 A n cap xs cb w' ∧ w.grownBy w' (some cb)
section
variable {w0 w w1 w2 : World} {A : Option Addr} {n cap : Nat} {xs : List Int} {cb : Nat}
theorem CurOut.of (hc : Cur w0 A n cap xs cb w) (hb : Below w.heap.size w w1) : CurOut w0 A n cap xs cb w w1 := ⟨hc.later hb, grown_of _ hb⟩
theorem CurOut.trans (h : CurOut w0 A n cap xs cb w w1) (k : CurOut w0 A n cap xs cb w1 w2) : CurOut w0 A n cap xs cb w w2 := ⟨k.1, grown_trans h.2 k.2⟩
theorem CurOut.then_ (h : CurOut w0 A n cap xs cb w w1) (hb : Below w1.heap.size w1 w2) : CurOut w0 A n cap xs cb w w2 := h.trans (CurOut.of h.1 hb)
end
set_option maxHeartbeats 1000000 in
theorem l01Below_c (w0 : World) (A : Option Addr) (n cap : Nat) (xs : List Int) (cb : Nat) (w : World) (hc : Cur w0 A n cap xs cb w) (m : Int) (hm : 0 < m) (hm2 : m ≤ 4294967296) :
    Calls Tryz.prog 40 #[.pointer (some ⟨cb, 0, none⟩), .int .i64 m] w fun e w' => ∃ x : Int, (0 ≤ x ∧ x < m) ∧ e = .returned (.int .i64 x) ∧ CurOut w0 A n cap xs cb w w' := by
  have HC := Lib.hid hc
  clear hc
  have hmod : ∀ x : Int, 0 ≤ x % m ∧ x % m < m := fun x => ⟨Int.emod_nonneg _ (by omega), Int.emod_lt_of_pos _ hm⟩
  go_enter Tryz.func40, Tryz.ntmps40
  go_wp2_with fail
  · refine (l01Byte_c w0 A n cap xs cb _ (HC.out.later (Dn.drewN w 0))).mono ?_
    rintro e w1 ⟨x, hx, rfl, hc1, hg1⟩
    go_wp2
    go_returns
    exact ⟨_, hmod x, rfl, hc1, hg1⟩
  · refine (l01Byte_c w0 A n cap xs cb _ (HC.out.later (Dn.drewN w 0))).mono ?_
    rintro e w1 ⟨x, hx, rfl, hc1⟩
    go_wp2_with fail
    refine (l01Byte_c w0 A n cap xs cb _ hc1.1).mono ?_
    rintro e w2 ⟨y, hy, rfl, hc2⟩
    go_wp2_with fail
    refine (l01Byte_c w0 A n cap xs cb _ hc2.1).mono ?_
    rintro e w3 ⟨z, hz, rfl, hc3⟩
    go_wp2_with fail
    refine (l01Byte_c w0 A n cap xs cb _ hc3.1).mono ?_
    rintro e w4 ⟨u, hu, rfl, hc4⟩
    have hp : 0 ≤ x * 16777216 + y * 65536 + z * 256 + u := by omega
    go_wp2
    go_returns
    have hh : CurOut w0 A n cap xs cb w w4 := ((CurOut.trans ⟨hc1.1, hc1.2⟩ hc2).trans hc3).trans hc4
    exact ⟨_, hmod _, rfl, hh⟩
set_option maxHeartbeats 1000000 in
theorem l01Once_c (w0 : World) (A : Option Addr) (n cap : Nat) (xs : List Int) (cb : Nat) (w : World) (hc : Cur w0 A n cap xs cb w) (m : Int) (hm : 0 < m) (hm2 : m ≤ 4294967296) :
    Calls Tryz.prog 19 #[.pointer (some ⟨cb, 0, none⟩), .int .i64 m] w fun e w' => ∃ x : Bool, e = .returned (.bool x) ∧ CurOut w0 A n cap xs cb w w' := by
  go_enter Tryz.func19, Tryz.ntmps19
  go_wp2_with fail
  refine (l01Below_c w0 A n cap xs cb _ (hc.later (Dn.drewN w 0)) m hm hm2).mono ?_
  rintro e w1 ⟨x, hx, rfl, hc1⟩
  go_wp2
  go_returns
  exact ⟨_, rfl, hc1⟩
set_option maxHeartbeats 1000000 in
theorem l01PickInt_c (w0 : World) (A : Option Addr) (n cap : Nat) (xs : List Int) (cb : Nat) (w : World) (hc : Cur w0 A n cap xs cb w) (la : Option Addr) (lc : Nat) (ls : List Int) (hl : 0 < ls.length) (hl2 : ls.length ≤ 256) (hr : Rds w .i64 la ls.length ls) (hla : ∀ ad, la = some ad → ad.block ≠ cb) :
    Calls Tryz.prog 41 #[.pointer (some ⟨cb, 0, none⟩), .slice la ls.length lc] w fun e w' => ∃ x : Int, x ∈ ls ∧ e = .returned (.int .i64 x) ∧ CurOut w0 A n cap xs cb w w' := by
  have HC := Lib.hid hc
  have HR := Lib.hid hr
  clear hc hr
  go_enter Tryz.func41, Tryz.ntmps41
  go_wp2_with fail
  refine (l01Below_c w0 A n cap xs cb _ (HC.out.later (Dn.drewN w 0)) ls.length (by omega) (by omega)).mono ?_
  rintro e w1 ⟨x, hx, rfl, hc1⟩
  obtain ⟨ad, rfl, hk⟩ := HR.out.at_ x hx.1 hx.2
  have hb := World.block_lt_of_cell? _ _ hk
  rw [add_block] at hb
  have hk1 : w1.cell? (ad.add x.toNat) = some (.int .i64 (rd ls x)) := by
    rw [World.cell?, hc1.2.block _ (by rw [add_block]; exact hb) (by rw [add_block]; intro e; injection e with e; exact hla ad rfl e)]
    exact hk
  have hm : rd ls x ∈ ls := by
    have : x.toNat < ls.length := by omega
    simp [rd, List.getD_eq_getElem?_getD, List.getElem?_eq_getElem this]
  generalize rd ls x = y at *
  clear hk
  go_wp2
  go_returns
  exact ⟨_, hm, rfl, hc1⟩
theorem rds_new (w : World) (ls : List Int) (hl : ls.length ≤ 9223372036854775807) (k : IntKind) (t : TypeId) : Rds (w.alloc (.cells (nums k ls).toArray t)) k (some ⟨w.heap.size, 0, none⟩) ls.length ls := by
  refine ⟨rfl, hl, fun _ => ⟨_, rfl, fun j hj => ?_⟩⟩
  have hb := Bk.new w t (nums k ls).toArray
  have := hb.cell j
  have e : Addr.add ⟨w.heap.size, 0, none⟩ j = ⟨w.heap.size, j, none⟩ := by
    unfold Addr.add
    split <;> simp_all
  rw [e, this]
  simp [nums, List.getElem?_eq_getElem hj, List.getD_eq_getElem?_getD]
theorem pick_new (w0 : World) (A : Option Addr) (n cap : Nat) (xs : List Int) (cb : Nat) (w : World) (hc : Cur w0 A n cap xs cb w) (ls : List Int) (hl : 0 < ls.length) (hl2 : ls.length ≤ 256) (t : TypeId) :
    Calls Tryz.prog 41 #[.pointer (some ⟨cb, 0, none⟩), .slice (some ⟨w.heap.size, 0, none⟩) ls.length ls.length] (w.alloc (.cells (nums .i64 ls).toArray t)) fun e w' => ∃ x : Int, x ∈ ls ∧ e = .returned (.int .i64 x) ∧ CurOut w0 A n cap xs cb w w' := by
  have hlt := hc.lt
  refine (l01PickInt_c w0 A n cap xs cb _ (hc.later (Dn.al w _)) _ _ ls hl hl2 (rds_new w ls (by omega) .i64 t) (by rintro ad e; injection e with e; subst e; show w.heap.size ≠ cb; omega)).mono ?_
  rintro e w' ⟨x, hx, he, hc'⟩
  exact ⟨x, hx, he, (CurOut.of hc (Dn.al w _)).trans hc'⟩
set_option maxHeartbeats 1000000 in
theorem l02Byte_c (w0 : World) (A : Option Addr) (n cap : Nat) (xs : List Int) (cb : Nat) (w : World) (hc : Cur w0 A n cap xs cb w) :
    Calls Tryz.prog 67 #[.pointer (some ⟨cb, 0, none⟩)] w fun e w' => ∃ x : Int, (0 ≤ x ∧ x < 256) ∧ e = .returned (.int .u8 x) ∧ CurOut w0 A n cap xs cb w w' := by
  have HC := Lib.hid hc
  clear hc
  go_enter Tryz.func67, Tryz.ntmps67
  go_wp2_with fail
  refine (l01Once_c w0 A n cap xs cb _ (HC.out.later (Dn.drewN w 0)) 2 (by omega) (by omega)).mono ?_
  rintro e w1 ⟨x, rfl, hc1⟩
  have h1 := hc1.1
  go_wp2_with fail
  · refine (pick_new w0 A n cap xs cb _ (h1.later (Dn.drewN w1 0)) [0, 1, 9, 16, 127, 128, 153, 255, 154, 80] (by decide) (by decide) 3).mono ?_
    rintro e w2 ⟨y, hy, rfl, hc2⟩
    have hy2 : 0 ≤ y ∧ y < 256 := by simp at hy; omega
    go_wp2
    go_returns
    exact ⟨_, hy2, rfl, hc1.trans hc2⟩
  · refine (l01Byte_c w0 A n cap xs cb _ (h1.later (Dn.drewN w1 0))).mono ?_
    rintro e w2 ⟨y, hy, rfl, hc2⟩
    go_wp2
    go_returns
    exact ⟨_, hy, rfl, hc1.trans hc2⟩
end Go.Proofs.YtemahcjglmhefaaGreatDoor
namespace Go.Proofs.YtemahcjglmhefaaGreatDoor
set_option linter.unusedVariables false
set_option linter.unusedSimpArgs false
open Go.RowKit

def sOf (code : Int) : List UInt8 × Int := if code % 4 = 0 then sZero (code / 32) (code / 4 % 8) else if code % 4 = 1 then sOne (code / 32) (code / 4 % 8) else if code % 4 = 2 then sTwo (code / 32) (code / 4 % 8) else ([], 0)
theorem sOf_tab : ∀ k : Fin 256, (sOf (k.val : Int)).1 = (opF (k.val : Int)).1 ∧ (if (sOf (k.val : Int)).1 = [] then (-1 : Int) else (sOf (k.val : Int)).2) = (opF (k.val : Int)).2 := by decide +kernel
theorem sOf_eq (code : Int) (h0 : 0 ≤ code) (h1 : code < 256) : (sOf code).1 = (opF code).1 ∧ (if (sOf code).1 = [] then (-1 : Int) else (sOf code).2) = (opF code).2 := by
  obtain ⟨m, rfl⟩ := Int.eq_ofNat_of_zero_le h0
  exact sOf_tab ⟨m, by omega⟩
set_option maxHeartbeats 1000000 in
theorem l03Of_c (code : Int) (h0 : 0 ≤ code) (h1 : code < 256) (w : World) :
    Calls Tryz.prog 62 #[.int .u8 code] w fun e w' => e = .returned (.agg #[.string ⟨(sOf code).1.toArray⟩, .int .i64 (sOf code).2]) ∧ Below w.heap.size w w' := by
  have hr : 0 ≤ code / 32 ∧ code / 32 < 8 := by omega
  have hp : 0 ≤ code / 4 % 8 ∧ code / 4 % 8 < 8 := by omega
  go_enter Tryz.func62, Tryz.ntmps62
  go_wp2_with fail
  · have hc : code % 4 = 0 := by simpa using ‹(code % 4 == 0) = true›
    refine (sZero_c _ _ hr hp _).mono ?_
    rintro e w1 ⟨rfl, hb1⟩
    rw [show sZero (code / 32) (code / 4 % 8) = sOf code by simp [sOf, hc]]
    have k := (Bk.new w 93 #[.string ⟨#[]⟩, .int .i64 0]).later hb1
    have hB : Below w.heap.size w w1 := Dn.trans (Dn.al w _) hb1
    generalize hs : sOf code = q at *
    have HS := Lib.hid hs
    have c := k.cell
    have f := k.frozen
    clear hb1 k hs
    go_wp2
    refine bodyPost_ret (v := .agg #[.string ⟨q.1.toArray⟩, .int .i64 q.2]) (by simp [results, Tryz.results62, go_sem, c]) rfl ⟨by rw [HS.out], by first | exact hB | exact (hB.setCell (Nat.le_refl _) _) | exact ((hB.setCell (Nat.le_refl _) _).setCell (Nat.le_refl _) _)⟩
  · have hc : code % 4 = 1 := by simpa using ‹(code % 4 == 1) = true›
    refine (sOne_c _ _ hr hp _).mono ?_
    rintro e w1 ⟨rfl, hb1⟩
    rw [show sOne (code / 32) (code / 4 % 8) = sOf code by simp [sOf, hc]]
    have k := (Bk.new w 93 #[.string ⟨#[]⟩, .int .i64 0]).later hb1
    have hB : Below w.heap.size w w1 := Dn.trans (Dn.al w _) hb1
    generalize hs : sOf code = q at *
    have HS := Lib.hid hs
    have c := k.cell
    have f := k.frozen
    clear hb1 k hs
    go_wp2
    refine bodyPost_ret (v := .agg #[.string ⟨q.1.toArray⟩, .int .i64 q.2]) (by simp [results, Tryz.results62, go_sem, c]) rfl ⟨by rw [HS.out], by first | exact hB | exact (hB.setCell (Nat.le_refl _) _) | exact ((hB.setCell (Nat.le_refl _) _).setCell (Nat.le_refl _) _)⟩
  · have hc : code % 4 = 2 := by simpa using ‹(code % 4 == 2) = true›
    refine (sTwo_c _ _ hr hp _).mono ?_
    rintro e w1 ⟨rfl, hb1⟩
    rw [show sTwo (code / 32) (code / 4 % 8) = sOf code by simp [sOf, hc]]
    have k := (Bk.new w 93 #[.string ⟨#[]⟩, .int .i64 0]).later hb1
    have hB : Below w.heap.size w w1 := Dn.trans (Dn.al w _) hb1
    generalize hs : sOf code = q at *
    have HS := Lib.hid hs
    have c := k.cell
    have f := k.frozen
    clear hb1 k hs
    go_wp2
    refine bodyPost_ret (v := .agg #[.string ⟨q.1.toArray⟩, .int .i64 q.2]) (by simp [results, Tryz.results62, go_sem, c]) rfl ⟨by rw [HS.out], by first | exact hB | exact (hB.setCell (Nat.le_refl _) _) | exact ((hB.setCell (Nat.le_refl _) _).setCell (Nat.le_refl _) _)⟩
  · refine bodyPost_ret (v := .agg #[.string ⟨#[]⟩, .int .i64 0]) (by simp [results, Tryz.results62, go_sem]) rfl ⟨by simp_all [sOf], by go_grown⟩
theorem op_name (b : ByteArray) (m : Int) (w : World) : (Instr.field 93 (.agg #[.string b, .int .i64 m]) 0).run Tryz.prog w = .ok (.string b) w := by kernel_rfl
theorem op_mode (b : ByteArray) (m : Int) (w : World) : (Instr.field 93 (.agg #[.string b, .int .i64 m]) 1).run Tryz.prog w = .ok (.int .i64 m) w := by kernel_rfl
theorem sNameOf_c (code : Int) (h0 : 0 ≤ code) (h1 : code < 256) (w : World) :
    Calls Tryz.prog 29 #[.int .u8 code] w fun e w' => e = .returned (.string ⟨(opF code).1.toArray⟩) ∧ Below w.heap.size w w' := by
  have HQ := Lib.hid (sOf_eq code h0 h1).1
  go_enter Tryz.func29, Tryz.ntmps29
  go_wp2_with fail
  refine (l03Of_c code h0 h1 _).mono ?_
  rintro e w1 ⟨rfl, hb1⟩
  have hf := op_name ⟨(sOf code).1.toArray⟩ (sOf code).2 w1
  go_wp2
  go_returns
  exact ⟨by rw [HQ.out]; rfl, hb1⟩
theorem sModeOf_c (code : Int) (h0 : 0 ≤ code) (h1 : code < 256) (w : World) :
    Calls Tryz.prog 33 #[.int .u8 code] w fun e w' => e = .returned (.int .i64 (opF code).2) ∧ Below w.heap.size w w' := by
  have HQ := Lib.hid (sOf_eq code h0 h1)
  go_enter Tryz.func33, Tryz.ntmps33
  go_wp2_with fail
  refine (sNameOf_c code h0 h1 _).mono ?_
  rintro e w1 ⟨rfl, hb1⟩
  go_wp2_with fail
  · go_returns
    refine ⟨?_, hb1⟩
    obtain ⟨q1, q2⟩ := HQ.out
    have hn : (opF code).1 = [] := by simpa using ‹(opF code).1.isEmpty = true›
    rw [q1, if_pos hn] at q2
    rw [← q2]
    rfl
  · refine (l03Of_c code h0 h1 _).mono ?_
    rintro e w2 ⟨rfl, hb2⟩
    have hf := op_mode ⟨(sOf code).1.toArray⟩ (sOf code).2 w2
    go_wp2
    go_returns
    refine ⟨?_, hb1.trans (hb2.mono hb1.size)⟩
    have hq := HQ.out
    have hne : ¬ (sOf code).1 = [] := by
      rw [hq.1]
      intro e
      simp_all
    rw [if_neg hne] at hq
    rw [← hq.2]
    rfl
theorem sSizeOf_c (code : Int) (h0 : 0 ≤ code) (h1 : code < 256) (w : World) :
    Calls Tryz.prog 71 #[.int .u8 code] w fun e w' => e = .returned (.int .i64 (sizeF (opF code).2)) ∧ Below w.heap.size w w' := by
  go_enter Tryz.func71, Tryz.ntmps71
  go_wp2_with fail
  refine (sModeOf_c _ h0 h1 _).mono ?_
  rintro e w1 ⟨rfl, hb1⟩
  generalize hq : (opF code).2 = m at *
  have HQ := Lib.hid hq
  clear hq
  go_wp2
  all_goals go_returns
  all_goals refine ⟨?_, hb1⟩
  all_goals have hq := HQ.out
  all_goals first | (simp [sizeF, *]; done) | (simp_all [sizeF]; done)
end Go.Proofs.YtemahcjglmhefaaGreatDoor
namespace Go.Proofs.YtemahcjglmhefaaGreatDoor
set_option linter.unusedVariables false
set_option linter.unusedSimpArgs false
open Go.RowKit
attribute [local irreducible] World.setCell

theorem mask_all : ∀ k : Fin 256, (bits BinOp.and .u8 (k.val : Int) 128 != 0) = (unpackF k.val).n ∧ (bits BinOp.and .u8 (k.val : Int) 64 != 0) = (unpackF k.val).v ∧ (bits BinOp.and .u8 (k.val : Int) 8 != 0) = (unpackF k.val).d ∧ (bits BinOp.and .u8 (k.val : Int) 4 != 0) = (unpackF k.val).i ∧ (bits BinOp.and .u8 (k.val : Int) 2 != 0) = (unpackF k.val).z ∧ (bits BinOp.and .u8 (k.val : Int) 1 != 0) = (unpackF k.val).c := by decide +kernel
theorem mask_tab (b : Int) (h0 : 0 ≤ b) (h1 : b < 256) : (bits BinOp.and .u8 b 128 != 0) = (unpackF b).n ∧ (bits BinOp.and .u8 b 64 != 0) = (unpackF b).v ∧ (bits BinOp.and .u8 b 8 != 0) = (unpackF b).d ∧ (bits BinOp.and .u8 b 4 != 0) = (unpackF b).i ∧ (bits BinOp.and .u8 b 2 != 0) = (unpackF b).z ∧ (bits BinOp.and .u8 b 1 != 0) = (unpackF b).c := by
  obtain ⟨m, rfl⟩ := Int.eq_ofNat_of_zero_le h0
  exact mask_all ⟨m, by omega⟩
theorem sUnpackP_c (b : Int) (h0 : 0 ≤ b) (h1 : b < 256) (w : World) : Calls Tryz.prog 89 #[.int .u8 b] w fun e w' => e = .returned (.agg #[.bool (unpackF b).n, .bool (unpackF b).v, .bool (unpackF b).d, .bool (unpackF b).i, .bool (unpackF b).z, .bool (unpackF b).c]) ∧ Below w.heap.size w w' := by
  go_enter Tryz.func89, Tryz.ntmps89
  go_wp2
  have hm := mask_tab b h0 h1
  refine bodyPost_ret (v := .agg #[.bool (unpackF b).n, .bool (unpackF b).v, .bool (unpackF b).d, .bool (unpackF b).i, .bool (unpackF b).z, .bool (unpackF b).c]) (by simp [results, Tryz.results89, go_sem, hm]) rfl ⟨rfl, by go_grown⟩
section
variable {w0 w w1 w2 : World} {A : Option Addr} {n cap : Nat} {xs : List Int} {cb : Nat}
theorem Cur.top (h : Cur w0 A n cap xs cb w) : w0.heap.size ≤ w.heap.size := Nat.le_trans h.1 (Nat.le_of_lt h.lt)
theorem CurOut.put (h : CurOut w0 A n cap xs cb w w1) (hc : Cur w0 A n cap xs cb w) {g : Nat} (hg : w.heap.size ≤ g) (i : Nat) (v : Value) : CurOut w0 A n cap xs cb w (w1.setCell ⟨g, i, none⟩ v) := by
  have hl := hc.lt
  have ht := hc.top
  obtain ⟨⟨h1, h2, h3, h4, j, q, h5, h6, h7⟩, hg1⟩ := h
  refine ⟨⟨h1, h2.setCell (p := ⟨g, i, none⟩) (Nat.le_trans ht hg) v, h3, h4, j, q, h5, h6, h7.far (p := ⟨g, i, none⟩) (by show cb ≠ g; omega) v⟩, ?_⟩
  have hb : Below w.heap.size w1 (w1.setCell ⟨g, i, none⟩ v) := (Below.refl _ _).setCell (p := ⟨g, i, none⟩) hg v
  exact ⟨hb.os.trans hg1.os, hb.tape.trans hg1.tape, hb.output.trans hg1.output, Nat.le_trans hg1.size hb.size, fun k hk hr => (hb.block k hk).trans (hg1.block k hk hr)⟩
theorem CurOut.al (hc : Cur w0 A n cap xs cb w) (o : Obj) (k : CurOut w0 A n cap xs cb (w.alloc o) w1) : CurOut w0 A n cap xs cb w w1 := (CurOut.of hc (Dn.al w o)).trans k
end
set_option maxHeartbeats 1000000 in
theorem l02Flags_c (w0 : World) (A : Option Addr) (n cap : Nat) (xs : List Int) (cb : Nat) (w : World) (hc : Cur w0 A n cap xs cb w) :
    Calls Tryz.prog 69 #[.pointer (some ⟨cb, 0, none⟩)] w fun e w' => ∃ f : Fl, e = .returned (.agg #[.bool f.n, .bool f.v, .bool f.d, .bool f.i, .bool f.z, .bool f.c]) ∧ CurOut w0 A n cap xs cb w w' := by
  have HC := Lib.hid hc
  clear hc
  go_enter Tryz.func69, Tryz.ntmps69
  go_wp2_with fail
  have hT := HC.out.later (Dn.al w (.cells #[.bool false, .bool false, .bool false, .bool false, .bool false, .bool false] 26))
  refine (l01Byte_c w0 A n cap xs cb _ hT).mono ?_
  rintro e w1 ⟨x, hx, rfl, hc1⟩
  have k1 := (Bk.new w 26 #[.bool false, .bool false, .bool false, .bool false, .bool false, .bool false]).grown hc1.2 (by have := HC.out.lt; intro e; injection e; omega)
  have HO1 := Lib.hid (CurOut.al HC.out _ hc1)
  clear hT hc1
  go_wp2_with fail
  refine (sUnpackP_c x hx.1 hx.2 _).mono ?_
  rintro e w2 ⟨rfl, hb2⟩
  have HO2 := Lib.hid (HO1.out.then_ hb2)
  have k2 := k1.later hb2
  have c := k2.cell
  have f := k2.frozen
  generalize unpackF x = q at *
  clear k1 k2 hb2 HO1
  go_wp2
  refine bodyPost_ret (v := .agg #[.bool q.n, .bool q.v, .bool q.d, .bool q.i, .bool q.z, .bool q.c]) (by simp [results, Tryz.results69, go_sem, c]) rfl ⟨q, rfl, ?_⟩
  repeat first | exact HO2.out | refine CurOut.put ?_ HC.out (Nat.le_refl _) _ _
set_option maxHeartbeats 1000000 in
theorem l04Pc_c (w0 : World) (A : Option Addr) (n cap : Nat) (xs : List Int) (cb : Nat) (w : World) (hc : Cur w0 A n cap xs cb w) :
    Calls Tryz.prog 68 #[.pointer (some ⟨cb, 0, none⟩)] w fun e w' => ∃ x : Int, (0 ≤ x ∧ x < 65536) ∧ e = .returned (.int .u16 x) ∧ CurOut w0 A n cap xs cb w w' := by
  have HC := Lib.hid hc
  clear hc
  go_enter Tryz.func68, Tryz.ntmps68
  go_wp2_with fail
  refine (l01Below_c w0 A n cap xs cb _ (HC.out.later (Dn.drewN w 0)) 65536 (by omega) (by omega)).mono ?_
  rintro e w1 ⟨x, hx, rfl, hc1⟩
  have h1 := hc1.1
  go_wp2_with fail
  refine (pick_new w0 A n cap xs cb _ (h1.later (Dn.drewN w1 0)) [0, 255, 512, 4096, 32768, 65535, 65530, x] (by simp) (by simp) 3).mono ?_
  rintro e w2 ⟨y, hy, rfl, hc2⟩
  have hy2 : 0 ≤ y ∧ y < 65536 := by simp at hy; omega
  go_wp2
  go_returns
  exact ⟨_, hy2, rfl, hc1.trans hc2⟩
set_option maxHeartbeats 1000000 in
theorem l05Cpu_c (w0 : World) (A : Option Addr) (n cap : Nat) (xs : List Int) (cb : Nat) (w : World) (hc : Cur w0 A n cap xs cb w) :
    Calls Tryz.prog 37 #[.pointer (some ⟨cb, 0, none⟩)] w fun e w' => ∃ c : Cp, c.ok ∧ e = .returned (.agg #[.int .u8 c.a, .int .u8 c.x, .int .u8 c.y, .int .u8 c.s, .int .u16 c.pc, .bool c.f.n, .bool c.f.v, .bool c.f.d, .bool c.f.i, .bool c.f.z, .bool c.f.c]) ∧ CurOut w0 A n cap xs cb w w' := by
  have HC := Lib.hid hc
  clear hc
  go_enter Tryz.func37, Tryz.ntmps37
  go_wp2_with fail
  have hlt := HC.out.lt
  have hgr : ∀ {w1 w2 : World} {cs : Array Value}, w1.grownBy w2 (some cb) → Bk w1 w.heap.size 28 cs → Bk w2 w.heap.size 28 cs := fun h k => k.grown h (by intro e; injection e; omega)
  refine (l02Byte_c w0 A n cap xs cb _ (HC.out.later (Dn.al w (.cells #[.int .u8 0, .int .u8 0, .int .u8 0, .int .u8 0, .int .u16 0, .bool false, .bool false, .bool false, .bool false, .bool false, .bool false] 28)))).mono ?_
  rintro e w1 ⟨a, ha, rfl, hc1⟩
  have K1 := Lib.hid (hgr hc1.2 (Bk.new w 28 #[.int .u8 0, .int .u8 0, .int .u8 0, .int .u8 0, .int .u16 0, .bool false, .bool false, .bool false, .bool false, .bool false, .bool false]))
  have HO1 := Lib.hid (CurOut.al HC.out _ hc1)
  clear hc1
  go_wp2_with fail
  refine (l02Byte_c w0 A n cap xs cb _ HO1.out.1).mono ?_
  rintro e w2 ⟨x, hx, rfl, hc2⟩
  have K2 := Lib.hid (hgr hc2.2 K1.out)
  have HO2 := Lib.hid (HO1.out.trans hc2)
  clear hc2 K1 HO1
  go_wp2_with fail
  refine (l02Byte_c w0 A n cap xs cb _ HO2.out.1).mono ?_
  rintro e w3 ⟨y, hy, rfl, hc3⟩
  have K3 := Lib.hid (hgr hc3.2 K2.out)
  have HO3 := Lib.hid (HO2.out.trans hc3)
  clear hc3 K2 HO2
  go_wp2_with fail
  refine (pick_new w0 A n cap xs cb _ HO3.out.1 [255, 253, 0, 1, 200] (by decide) (by decide) 3).mono ?_
  rintro e w4 ⟨s, hs, rfl, hc4⟩
  have hs2 : 0 ≤ s ∧ s < 256 := by simp at hs; omega
  have K4 := Lib.hid (hgr hc4.2 K3.out)
  have HO4 := Lib.hid (HO3.out.trans hc4)
  clear hc4 K3 HO3 hs
  go_wp2_with fail
  refine (l04Pc_c w0 A n cap xs cb _ HO4.out.1).mono ?_
  rintro e w5 ⟨pc, hpc, rfl, hc5⟩
  have K5 := Lib.hid (hgr hc5.2 K4.out)
  have HO5 := Lib.hid (HO4.out.trans hc5)
  clear hc5 K4 HO4
  go_wp2_with fail
  refine (l02Flags_c w0 A n cap xs cb _ HO5.out.1).mono ?_
  rintro e w6 ⟨f, rfl, hc6⟩
  have K6 := Lib.hid (hgr hc6.2 K5.out)
  have HO6 := Lib.hid (HO5.out.trans hc6)
  clear hc6 K5 HO5
  have c := K6.out.cell
  have fz := K6.out.frozen
  go_wp2
  refine bodyPost_ret (v := .agg #[.int .u8 a, .int .u8 x, .int .u8 y, .int .u8 s, .int .u16 pc, .bool f.n, .bool f.v, .bool f.d, .bool f.i, .bool f.z, .bool f.c]) (by simp [results, Tryz.results37, go_sem, c]) rfl ⟨⟨a, x, y, s, pc, f⟩, ⟨ha, hx, hy, hs2, hpc⟩, rfl, ?_⟩
  repeat first | exact HO6.out | refine CurOut.put ?_ HC.out (Nat.le_refl _) _ _
set_option maxHeartbeats 1000000 in
theorem l03Code_c (w0 : World) (A : Option Addr) (n cap : Nat) (xs : List Int) (cb : Nat) (w : World) (hc : Cur w0 A n cap xs cb w) :
    Calls Tryz.prog 70 #[.pointer (some ⟨cb, 0, none⟩)] w fun e w' => ∃ x : Int, (0 ≤ x ∧ x < 256) ∧ e = .returned (.int .u8 x) ∧ CurOut w0 A n cap xs cb w w' := by
  have HC := Lib.hid hc
  clear hc
  go_enter Tryz.func70, Tryz.ntmps70
  go_wp2_with fail
  refine (l01Byte_c w0 A n cap xs cb _ (HC.out.later (Dn.drewN w 0))).mono ?_
  rintro e w1 ⟨x, hx, rfl, hc1⟩
  have hO : CurOut w0 A n cap xs cb w w1 := hc1
  clear hc1
  go_wp2_with fail
  go_loopw [3, 4] (fun b i wr => ∃ j : Nat, j ≤ 3 ∧ i = .int .i64 j ∧ ∃ y : Int, (0 ≤ y ∧ y < 256) ∧ b = .int .u8 y ∧ CurOut w0 A n cap xs cb w wr) (fun _ i _ => 3 - (intOf i).toNat)
  case atStart => exact ⟨0, by omega, rfl, x, hx, rfl, hO⟩
  case round =>
    obtain ⟨j, hj, rfl, y, hy, rfl, hO2⟩ := hrel
    have HO2 := Lib.hid hO2
    clear hO hO2
    by_cases hlt : j < 3
    · go_wp2_with fail
      refine (sNameOf_c y hy.1 hy.2 _).mono ?_
      rintro e w2 ⟨rfl, hb2⟩
      have HO3 := Lib.hid (HO2.out.then_ hb2)
      clear hb2
      go_wp2_with fail
      · refine (l01Byte_c w0 A n cap xs cb _ (HO3.out.1.later (Dn.drewN w2 0))).mono ?_
        rintro e w3 ⟨z, hz, rfl, hc3⟩
        have HO4 := Lib.hid (HO3.out.trans hc3)
        clear hc3
        go_wp2
        go_roundw
        case rel => exact ⟨j + 1, by omega, by go_num, z, hz, rfl, HO4.out⟩
        case measure => simp [intOf]; omega
      · go_returns
        exact ⟨y, hy, rfl, HO3.out⟩
    · go_wp2
      go_returns
      exact ⟨y, hy, rfl, HO2.out⟩
end Go.Proofs.YtemahcjglmhefaaGreatDoor
namespace Go.Proofs.YtemahcjglmhefaaGreatDoor
set_option linter.unusedVariables false
set_option linter.unusedSimpArgs false
open Go.RowKit
attribute [local irreducible] World.setCell
section
variable {w0 w w1 w2 : World} {A : Option Addr} {n cap : Nat} {xs : List Int} {cb : Nat}
theorem CurOut.keep (h : CurOut w0 A n cap xs cb w w1) (hc : Cur w0 A n cap xs cb w) (hb : Below w.heap.size w1 w2) : CurOut w0 A n cap xs cb w w2 := by
  have hl := hc.lt
  have ht := hc.top
  obtain ⟨⟨h1, h2, h3, h4, j, q, h5, h6, h7⟩, hg1⟩ := h
  exact ⟨⟨h1, h2.trans (hb.mono ht), h3, h4, j, q, h5, h6, h7.below hb hl⟩, hb.os.trans hg1.os, hb.tape.trans hg1.tape, hb.output.trans hg1.output, Nat.le_trans hg1.size hb.size, fun k hk hr => (hb.block k hk).trans (hg1.block k hk hr)⟩
theorem CurOut.size (h : CurOut w0 A n cap xs cb w w1) : w.heap.size ≤ w1.heap.size := h.2.size
end
theorem info8 : (Tryz.prog.info? 5).map (fun i => (i.zero, i.size, i.bytes)) = some (some (.int .u8 0), 1, 1) := by kernel_rfl
theorem own_curOut {w0 w w1 w2 : World} {A : Option Addr} {n cap : Nat} {xs : List Int} {cb : Nat} {s : Value} {k : Nat} {ys : List Value} {e : TypeId} {z : Nat} (hc : Cur w0 A n cap xs cb w) (ho : w1.ownsRow w.heap.size e z s k ys) (h : CurOut w0 A n cap xs cb w1 w2) (h1 : w.heap.size ≤ w1.heap.size) : w2.ownsRow w.heap.size e z s k ys := by
  refine ho.kept h.2 ?_
  have hl := hc.lt
  by_cases hb : s.ownBlock = none
  · exact .inl hb
  · exact .inr (fun e => by have := own_base ho cb e; omega)
theorem one_news (w : World) (x : Int) (t : TypeId) : ∀ (j : Nat) (u : Value), ([.int .u8 x] : List Value)[j]? = some u → (w.alloc (.cells #[.int .u8 x] t)).cell? (Addr.add ⟨w.heap.size, 0, none⟩ j) = some u := by
  intro j u hj
  match j, hj with
  | 0, hj => simp at hj; subst hj; simp [Addr.add]
theorem own_one {w : World} {B : Nat} {t : TypeId} {v : Value} {ls : List Int} {x : Int} (h : w.ownsRow B t 1 v (ls.length + 1) (nums .u8 ls ++ [.int .u8 x])) : w.ownsRow B t 1 v (ls ++ [x]).length (nums .u8 (ls ++ [x])) := by
  simpa [nums] using h
theorem byt_one {ls : List Int} {x : Int} (h : Byt ls) (hx : 0 ≤ x ∧ x < 256) : Byt (ls ++ [x]) := by
  intro y hy
  rcases List.mem_append.1 hy with hy | hy
  · exact h y hy
  · simp at hy; subst hy; exact hx
theorem CurOut.app {w0 w w1 w2 : World} {A : Option Addr} {n cap : Nat} {xs : List Int} {cb : Nat} {s : Value} {k : Nat} {ys : List Value} {e : TypeId} {z : Nat} (h : CurOut w0 A n cap xs cb w w1) (hc : Cur w0 A n cap xs cb w) (o : Obj) (ho : w1.ownsRow w.heap.size e z s k ys) (hg : (w1.alloc o).grownBy w2 s.ownBlock) : CurOut w0 A n cap xs cb w w2 :=
  h.keep hc (((Below.refl _ _).alloc h.size o).grown hg (Nat.le_trans h.size (Dn.al w1 o).size) (fun k hk => own_base ho k hk))
set_option maxHeartbeats 1000000 in
theorem l04Bytes_c (w0 : World) (A : Option Addr) (n cap : Nat) (xs : List Int) (cb : Nat) (w : World) (hc : Cur w0 A n cap xs cb w) (m : Nat) (hm : 0 < m) (hm2 : m ≤ 60) :
    Calls Tryz.prog 39 #[.pointer (some ⟨cb, 0, none⟩), .int .i64 m] w fun e w' => ∃ v ls, (0 < ls.length ∧ ls.length ≤ 180) ∧ Byt ls ∧ e = .returned v ∧ w'.ownsRow w.heap.size 5 1 v ls.length (nums .u8 ls) ∧ CurOut w0 A n cap xs cb w w' := by
  have HC := Lib.hid hc
  have hst : CurOut w0 A n cap xs cb w (w.alloc (.cells #[] 5)) := CurOut.of hc (Dn.al w _)
  obtain ⟨i0, hi, hz0, hz1, hz2⟩ := info_parts info8
  have HI := Lib.hid (And.intro hi (And.intro hz0 (And.intro hz1 hz2)))
  clear hc hi hz0 hz1 hz2
  go_enter Tryz.func39, Tryz.ntmps39
  go_wp2_with fail
  go_loopw [5, 6] (fun s i wr => ∃ j : Nat, j ≤ m ∧ i = .int .i64 j ∧ ∃ ls : List Int, ls.length ≤ 3 * j ∧ (0 < j → 0 < ls.length) ∧ Byt ls ∧ wr.ownsRow w.heap.size 5 1 s ls.length (nums .u8 ls) ∧ CurOut w0 A n cap xs cb w wr) (fun _ i _ => m - (intOf i).toNat)
  case atStart => exact ⟨0, by omega, rfl, [], by simp, by omega, by intro x hx; simp at hx, World.ownsRow_made w #[] 0 (Nat.le_refl _) (by decide) rfl, hst⟩
  case round =>
    obtain ⟨j, hj, rfl, ls, hl, hl0, hby, ho, hO⟩ := hrel
    obtain ⟨sA, sc, rfl⟩ := own_shape ho
    have HO := Lib.hid hO
    have HW := Lib.hid ho
    clear hst hO ho
    by_cases hlt : j < m
    · go_wp2_with fail
      refine (l03Code_c w0 A n cap xs cb _ (HO.out.1.later (Dn.drewN _ 0))).mono ?_
      rintro e w2 ⟨x, hx, rfl, hc2⟩
      have HW2 := Lib.hid (own_curOut HC.out HW.out hc2 HO.out.size)
      have HO2 := Lib.hid (HO.out.trans hc2)
      clear hc2 HW HO
      obtain ⟨hi, hz0, hz1, hz2⟩ := HI.out
      have b1 : ls.length + 1 ≤ maxLen := by unfold maxLen; omega
      have b2 : (ls.length + 1) * 1 ≤ 140737488355328 := by omega
      go_wp2_with (at_builtin; refine wpList_append_own _ rfl (.tmp 17) (.tmp 19) 22 rfl w.heap.size 5 i0 _ 1 1 Tryz.underlying22 hi hz0 hz1 hz2 rfl (by decide) (.slice sA ls.length sc) ls.length (nums .u8 ls) rfl (HW2.out.alloc _) ⟨w2.heap.size, 0, none⟩ 1 1 [.int .u8 x] rfl rfl (one_news w2 x _) (by intro u hu; simp at hu; subst hu; rfl) b1 b2 (by simp; have := HO2.out.size; omega) ?c3)
      case c3 =>
        intro v' w3 hown hgr _
        obtain ⟨vA, vc, rfl⟩ := own_shape hown
        have hst2 : ∃ k : Nat, k ≤ 2 ∧ (Value.int .i64 1) = .int .i64 ((k : Int) + 1) ∧ ∃ l2 : List Int, l2.length = ls.length + k + 1 ∧ Byt l2 ∧ w3.ownsRow w.heap.size 5 1 (.slice vA (ls.length + 1) vc) l2.length (nums .u8 l2) ∧ CurOut w0 A n cap xs cb w w3 :=
          ⟨0, by omega, rfl, ls ++ [x], by simp, byt_one hby hx, own_one hown, HO2.out.app HC.out _ HW2.out hgr⟩
        clear hown hgr b1 b2 HW2 HO2 hi hz0 hz1 hz2 hby
        go_wp2_with fail
        go_loopw [5, 8] (fun s i wr => ∃ k : Nat, k ≤ 2 ∧ i = .int .i64 ((k : Int) + 1) ∧ ∃ l2 : List Int, l2.length = ls.length + k + 1 ∧ Byt l2 ∧ wr.ownsRow w.heap.size 5 1 s l2.length (nums .u8 l2) ∧ CurOut w0 A n cap xs cb w wr) (fun _ i _ => 3 - (intOf i).toNat)
        case atStart => exact hst2
        case round =>
          obtain ⟨k, hk, rfl, l2, hl2, hby2, ho2, hO2⟩ := hrel
          obtain ⟨rA, rc, rfl⟩ := own_shape ho2
          have HO2 := Lib.hid hO2
          have HW2 := Lib.hid ho2
          have HL2 := Lib.hid hl2
          clear hst2 hO2 ho2 hl2
          go_wp2_with fail
          refine (sSizeOf_c x hx.1 hx.2 _).mono ?_
          rintro e w4 ⟨rfl, hb4⟩
          have hsz := size_ok (opF x).2
          generalize sizeF (opF x).2 = q at *
          have HW3 := Lib.hid (own_later HW2.out hb4)
          have HO3 := Lib.hid (HO2.out.then_ hb4)
          clear hb4 HW2 HO2
          by_cases hq : (k : Int) + 1 < q
          · go_wp2_with fail
            refine (l02Byte_c w0 A n cap xs cb _ (HO3.out.1.later (Dn.drewN _ 0))).mono ?_
            rintro e w5 ⟨y, hy, rfl, hc5⟩
            have HW5 := Lib.hid (own_curOut HC.out HW3.out hc5 HO3.out.size)
            have HO5 := Lib.hid (HO3.out.trans hc5)
            clear hc5 HW3 HO3
            obtain ⟨hi, hz0, hz1, hz2⟩ := HI.out
            have b1 : l2.length + 1 ≤ maxLen := by have := HL2.out; unfold maxLen; omega
            have b2 : (l2.length + 1) * 1 ≤ 140737488355328 := by have := HL2.out; omega
            go_wp2_with (at_builtin; refine wpList_append_own _ rfl (.tmp 27) (.tmp 30) 22 rfl w.heap.size 5 i0 _ 1 1 Tryz.underlying22 hi hz0 hz1 hz2 rfl (by decide) (.slice rA l2.length rc) l2.length (nums .u8 l2) rfl (HW5.out.alloc _) ⟨w5.heap.size, 0, none⟩ 1 1 [.int .u8 y] rfl rfl (one_news w5 y _) (by intro u hu; simp at hu; subst hu; rfl) b1 b2 (by simp; have := HO5.out.size; omega) ?c4)
            case c4 =>
              intro v' w6 hown hgr _
              obtain ⟨vA, vc, rfl⟩ := own_shape hown
              have HO6 := Lib.hid (HO5.out.app HC.out _ HW5.out hgr)
              have HW6 := Lib.hid (own_one hown)
              clear hown hgr b1 b2 HW5 HO5 hi hz0 hz1 hz2
              go_wp2
              go_roundw
              case rel => exact ⟨k + 1, by omega, by go_num, l2 ++ [y], by have := HL2.out; simp; omega, byt_one hby2 hy, HW6.out, HO6.out⟩
              case measure => simp [intOf]; omega
          · go_wp2
            go_roundw
            case rel => exact ⟨j + 1, by omega, by go_num, l2, by have := HL2.out; omega, by have := HL2.out; omega, hby2, HW3.out, HO3.out⟩
            case measure => simp [intOf]; omega
    · obtain rfl : j = m := by omega
      go_wp2
      go_returns
      exact ⟨_, ls, ⟨hl0 (by omega), by omega⟩, hby, rfl, HW.out, HO.out⟩
end Go.Proofs.YtemahcjglmhefaaGreatDoor
