/- Draws of numbers. No condition. -/
import Derived.Test.YtemahcjglmhefaaDoorCur
import Derived.Deep.RegionHeld3
namespace Go.Proofs.YtemahcjglmhefaaDoor
open Go.RowKit
attribute [local irreducible] World.setCell

/-- What a draw by the cursor keeps. -/
def CurOut (w0 : World) (A : Option Addr) (n cap : Nat) (xs : List Int) (cb : Nat) (w w' : World) : Prop := Cur w0 A n cap xs cb w' ∧ w.grownBy w' (some cb)
section
variable {w0 w w1 w2 : World} {A : Option Addr} {n cap : Nat} {xs : List Int} {cb : Nat}
theorem CurOut.of (hc : Cur w0 A n cap xs cb w) (hb : Below w.heap.size w w1) : CurOut w0 A n cap xs cb w w1 := ⟨hc.later hb, grown_of _ hb⟩
theorem CurOut.trans (h : CurOut w0 A n cap xs cb w w1) (k : CurOut w0 A n cap xs cb w1 w2) : CurOut w0 A n cap xs cb w w2 := ⟨k.1, grown_trans h.2 k.2⟩
theorem CurOut.then_ (h : CurOut w0 A n cap xs cb w w1) (hb : Below w1.heap.size w1 w2) : CurOut w0 A n cap xs cb w w2 := h.trans (CurOut.of h.1 hb)
end
set_option maxHeartbeats 1000000 in
theorem l01Below_c (w0 : World) (A : Option Addr) (n cap : Nat) (xs : List Int) (cb : Nat) (w : World) (hc : Cur w0 A n cap xs cb w) (m : Int) (hm : 0 < m) (hm2 : m ≤ 4294967296) :
    Calls Tryd.prog 34 #[.pointer (some ⟨cb, 0, none⟩), .int .i64 m] w fun e w' => ∃ x : Int, (0 ≤ x ∧ x < m) ∧ e = .returned (.int .i64 x) ∧ CurOut w0 A n cap xs cb w w' := by
  have HC := Lib.hid hc
  clear hc
  have hmod : ∀ x : Int, 0 ≤ x % m ∧ x % m < m := fun x => ⟨Int.emod_nonneg _ (by omega), Int.emod_lt_of_pos _ hm⟩
  go_enter Tryd.func34, Tryd.ntmps34
  go_wp2_with fail
  · refine (l01Byte_c w0 A n cap xs cb _ (HC.out.later (Dn.drewN w 0))).mono ?_
    rintro e w1 ⟨x, hx, rfl, hc1, hg1⟩
    go_wp2
    go_returns
    exact ⟨_, hmod x, rfl, hc1, hg1⟩
  · refine (l01Byte_c w0 A n cap xs cb _ (HC.out.later (Dn.drewN w 0))).mono ?_
    rintro e w1 ⟨x, hx, rfl, hc1⟩
    go_wp2_with fail
    refine (l01Byte_c w0 A n cap xs cb _ hc1.1).mono ?_
    rintro e w2 ⟨y, hy, rfl, hc2⟩
    go_wp2_with fail
    refine (l01Byte_c w0 A n cap xs cb _ hc2.1).mono ?_
    rintro e w3 ⟨z, hz, rfl, hc3⟩
    go_wp2_with fail
    refine (l01Byte_c w0 A n cap xs cb _ hc3.1).mono ?_
    rintro e w4 ⟨u, hu, rfl, hc4⟩
    have hp : 0 ≤ x * 16777216 + y * 65536 + z * 256 + u := by omega
    go_wp2
    go_returns
    have hh : CurOut w0 A n cap xs cb w w4 := ((CurOut.trans ⟨hc1.1, hc1.2⟩ hc2).trans hc3).trans hc4
    exact ⟨_, hmod _, rfl, hh⟩
set_option maxHeartbeats 1000000 in
theorem l01Once_c (w0 : World) (A : Option Addr) (n cap : Nat) (xs : List Int) (cb : Nat) (w : World) (hc : Cur w0 A n cap xs cb w) (m : Int) (hm : 0 < m) (hm2 : m ≤ 4294967296) :
    Calls Tryd.prog 19 #[.pointer (some ⟨cb, 0, none⟩), .int .i64 m] w fun e w' => ∃ x : Bool, e = .returned (.bool x) ∧ CurOut w0 A n cap xs cb w w' := by
  go_enter Tryd.func19, Tryd.ntmps19
  go_wp2_with fail
  refine (l01Below_c w0 A n cap xs cb _ (hc.later (Dn.drewN w 0)) m hm hm2).mono ?_
  rintro e w1 ⟨x, hx, rfl, hc1⟩
  go_wp2
  go_returns
  exact ⟨_, rfl, hc1⟩
set_option maxHeartbeats 1000000 in
theorem l01PickInt_c (w0 : World) (A : Option Addr) (n cap : Nat) (xs : List Int) (cb : Nat) (w : World) (hc : Cur w0 A n cap xs cb w) (la : Option Addr) (lc : Nat) (ls : List Int) (hl : 0 < ls.length) (hl2 : ls.length ≤ 256) (hr : Rds w .i64 la ls.length ls) (hla : ∀ ad, la = some ad → ad.block ≠ cb) :
    Calls Tryd.prog 35 #[.pointer (some ⟨cb, 0, none⟩), .slice la ls.length lc] w fun e w' => ∃ x : Int, x ∈ ls ∧ e = .returned (.int .i64 x) ∧ CurOut w0 A n cap xs cb w w' := by
  have HC := Lib.hid hc
  have HR := Lib.hid hr
  clear hc hr
  go_enter Tryd.func35, Tryd.ntmps35
  go_wp2_with fail
  refine (l01Below_c w0 A n cap xs cb _ (HC.out.later (Dn.drewN w 0)) ls.length (by omega) (by omega)).mono ?_
  rintro e w1 ⟨x, hx, rfl, hc1⟩
  obtain ⟨ad, rfl, hk⟩ := HR.out.at_ x hx.1 hx.2
  have hb := World.block_lt_of_cell? _ _ hk
  rw [add_block] at hb
  have hk1 : w1.cell? (ad.add x.toNat) = some (.int .i64 (rd ls x)) := by
    rw [World.cell?, hc1.2.block _ (by rw [add_block]; exact hb) (by rw [add_block]; intro e; injection e with e; exact hla ad rfl e)]
    exact hk
  have hm : rd ls x ∈ ls := by
    have : x.toNat < ls.length := by omega
    simp [rd, List.getD_eq_getElem?_getD, List.getElem?_eq_getElem this]
  generalize rd ls x = y at *
  clear hk
  go_wp2
  go_returns
  exact ⟨_, hm, rfl, hc1⟩
theorem rds_new (w : World) (ls : List Int) (hl : ls.length ≤ 9223372036854775807) (k : IntKind) (t : TypeId) : Rds (w.alloc (.cells (nums k ls).toArray t)) k (some ⟨w.heap.size, 0, none⟩) ls.length ls := by
  refine ⟨rfl, hl, fun _ => ⟨_, rfl, fun j hj => ?_⟩⟩
  have hb := Bk.new w t (nums k ls).toArray
  have := hb.cell j
  have e : Addr.add ⟨w.heap.size, 0, none⟩ j = ⟨w.heap.size, j, none⟩ := by
    unfold Addr.add
    split <;> simp_all
  rw [e, this]
  simp [nums, List.getElem?_eq_getElem hj, List.getD_eq_getElem?_getD]
theorem pick_new (w0 : World) (A : Option Addr) (n cap : Nat) (xs : List Int) (cb : Nat) (w : World) (hc : Cur w0 A n cap xs cb w) (ls : List Int) (hl : 0 < ls.length) (hl2 : ls.length ≤ 256) (t : TypeId) :
    Calls Tryd.prog 35 #[.pointer (some ⟨cb, 0, none⟩), .slice (some ⟨w.heap.size, 0, none⟩) ls.length ls.length] (w.alloc (.cells (nums .i64 ls).toArray t)) fun e w' => ∃ x : Int, x ∈ ls ∧ e = .returned (.int .i64 x) ∧ CurOut w0 A n cap xs cb w w' := by
  have hlt := hc.lt
  refine (l01PickInt_c w0 A n cap xs cb _ (hc.later (Dn.al w _)) _ _ ls hl hl2 (rds_new w ls (by omega) .i64 t) (by rintro ad e; injection e with e; subst e; show w.heap.size ≠ cb; omega)).mono ?_
  rintro e w' ⟨x, hx, he, hc'⟩
  exact ⟨x, hx, he, (CurOut.of hc (Dn.al w _)).trans hc'⟩
set_option maxHeartbeats 1000000 in
theorem l02Byte_c (w0 : World) (A : Option Addr) (n cap : Nat) (xs : List Int) (cb : Nat) (w : World) (hc : Cur w0 A n cap xs cb w) :
    Calls Tryd.prog 52 #[.pointer (some ⟨cb, 0, none⟩)] w fun e w' => ∃ x : Int, (0 ≤ x ∧ x < 256) ∧ e = .returned (.int .u8 x) ∧ CurOut w0 A n cap xs cb w w' := by
  have HC := Lib.hid hc
  clear hc
  go_enter Tryd.func52, Tryd.ntmps52
  go_wp2_with fail
  refine (l01Once_c w0 A n cap xs cb _ (HC.out.later (Dn.drewN w 0)) 2 (by omega) (by omega)).mono ?_
  rintro e w1 ⟨x, rfl, hc1⟩
  have h1 := hc1.1
  go_wp2_with fail
  · refine (pick_new w0 A n cap xs cb _ (h1.later (Dn.drewN w1 0)) [0, 1, 9, 16, 127, 128, 153, 255, 154, 80] (by decide) (by decide) 3).mono ?_
    rintro e w2 ⟨y, hy, rfl, hc2⟩
    have hy2 : 0 ≤ y ∧ y < 256 := by simp at hy; omega
    go_wp2
    go_returns
    exact ⟨_, hy2, rfl, hc1.trans hc2⟩
  · refine (l01Byte_c w0 A n cap xs cb _ (h1.later (Dn.drewN w1 0))).mono ?_
    rintro e w2 ⟨y, hy, rfl, hc2⟩
    go_wp2
    go_returns
    exact ⟨_, hy, rfl, hc1.trans hc2⟩
end Go.Proofs.YtemahcjglmhefaaDoor
