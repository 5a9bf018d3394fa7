/- Draws of bytes, flags, places and registers. No condition. -/
import Derived.Test.YtemahcjglmhefaaDoorCur2
import Derived.Test.YtemahcjglmhefaaDoorSOf
namespace Go.Proofs.YtemahcjglmhefaaDoor
open Go.RowKit
attribute [local irreducible] World.setCell

theorem mask_all : ∀ k : Fin 256, (bits BinOp.and .u8 (k.val : Int) 128 != 0) = (unpackF k.val).n ∧ (bits BinOp.and .u8 (k.val : Int) 64 != 0) = (unpackF k.val).v ∧ (bits BinOp.and .u8 (k.val : Int) 8 != 0) = (unpackF k.val).d ∧ (bits BinOp.and .u8 (k.val : Int) 4 != 0) = (unpackF k.val).i ∧ (bits BinOp.and .u8 (k.val : Int) 2 != 0) = (unpackF k.val).z ∧ (bits BinOp.and .u8 (k.val : Int) 1 != 0) = (unpackF k.val).c := by decide +kernel
theorem mask_tab (b : Int) (h0 : 0 ≤ b) (h1 : b < 256) : (bits BinOp.and .u8 b 128 != 0) = (unpackF b).n ∧ (bits BinOp.and .u8 b 64 != 0) = (unpackF b).v ∧ (bits BinOp.and .u8 b 8 != 0) = (unpackF b).d ∧ (bits BinOp.and .u8 b 4 != 0) = (unpackF b).i ∧ (bits BinOp.and .u8 b 2 != 0) = (unpackF b).z ∧ (bits BinOp.and .u8 b 1 != 0) = (unpackF b).c := by
  obtain ⟨m, rfl⟩ := Int.eq_ofNat_of_zero_le h0
  exact mask_all ⟨m, by omega⟩
theorem sUnpackP_c (b : Int) (h0 : 0 ≤ b) (h1 : b < 256) (w : World) : Calls Tryd.prog 72 #[.int .u8 b] w fun e w' => e = .returned (.agg #[.bool (unpackF b).n, .bool (unpackF b).v, .bool (unpackF b).d, .bool (unpackF b).i, .bool (unpackF b).z, .bool (unpackF b).c]) ∧ Below w.heap.size w w' := by
  go_enter Tryd.func72, Tryd.ntmps72
  go_wp2
  have hm := mask_tab b h0 h1
  refine bodyPost_ret (v := .agg #[.bool (unpackF b).n, .bool (unpackF b).v, .bool (unpackF b).d, .bool (unpackF b).i, .bool (unpackF b).z, .bool (unpackF b).c]) (by simp [results, Tryd.results72, go_sem, hm]) rfl ⟨rfl, by go_grown⟩
section
variable {w0 w w1 w2 : World} {A : Option Addr} {n cap : Nat} {xs : List Int} {cb : Nat}
theorem Cur.top (h : Cur w0 A n cap xs cb w) : w0.heap.size ≤ w.heap.size := Nat.le_trans h.1 (Nat.le_of_lt h.lt)
theorem CurOut.put (h : CurOut w0 A n cap xs cb w w1) (hc : Cur w0 A n cap xs cb w) {g : Nat} (hg : w.heap.size ≤ g) (i : Nat) (v : Value) : CurOut w0 A n cap xs cb w (w1.setCell ⟨g, i, none⟩ v) := by
  have hl := hc.lt
  have ht := hc.top
  obtain ⟨⟨h1, h2, h3, h4, j, q, h5, h6, h7⟩, hg1⟩ := h
  refine ⟨⟨h1, h2.setCell (p := ⟨g, i, none⟩) (Nat.le_trans ht hg) v, h3, h4, j, q, h5, h6, h7.far (p := ⟨g, i, none⟩) (by show cb ≠ g; omega) v⟩, ?_⟩
  have hb : Below w.heap.size w1 (w1.setCell ⟨g, i, none⟩ v) := (Below.refl _ _).setCell (p := ⟨g, i, none⟩) hg v
  exact ⟨hb.os.trans hg1.os, hb.tape.trans hg1.tape, hb.output.trans hg1.output, Nat.le_trans hg1.size hb.size, fun k hk hr => (hb.block k hk).trans (hg1.block k hk hr)⟩
theorem CurOut.al (hc : Cur w0 A n cap xs cb w) (o : Obj) (k : CurOut w0 A n cap xs cb (w.alloc o) w1) : CurOut w0 A n cap xs cb w w1 := (CurOut.of hc (Dn.al w o)).trans k
end
set_option maxHeartbeats 1000000 in
theorem l02Flags_c (w0 : World) (A : Option Addr) (n cap : Nat) (xs : List Int) (cb : Nat) (w : World) (hc : Cur w0 A n cap xs cb w) :
    Calls Tryd.prog 54 #[.pointer (some ⟨cb, 0, none⟩)] w fun e w' => ∃ f : Fl, e = .returned (.agg #[.bool f.n, .bool f.v, .bool f.d, .bool f.i, .bool f.z, .bool f.c]) ∧ CurOut w0 A n cap xs cb w w' := by
  have HC := Lib.hid hc
  clear hc
  go_enter Tryd.func54, Tryd.ntmps54
  go_wp2_with fail
  have hT := HC.out.later (Dn.al w (.cells #[.bool false, .bool false, .bool false, .bool false, .bool false, .bool false] 26))
  refine (l01Byte_c w0 A n cap xs cb _ hT).mono ?_
  rintro e w1 ⟨x, hx, rfl, hc1⟩
  have k1 := (Bk.new w 26 #[.bool false, .bool false, .bool false, .bool false, .bool false, .bool false]).grown hc1.2 (by have := HC.out.lt; intro e; injection e; omega)
  have HO1 := Lib.hid (CurOut.al HC.out _ hc1)
  clear hT hc1
  go_wp2_with fail
  refine (sUnpackP_c x hx.1 hx.2 _).mono ?_
  rintro e w2 ⟨rfl, hb2⟩
  have HO2 := Lib.hid (HO1.out.then_ hb2)
  have k2 := k1.later hb2
  have c := k2.cell
  have f := k2.frozen
  generalize unpackF x = q at *
  clear k1 k2 hb2 HO1
  go_wp2
  refine bodyPost_ret (v := .agg #[.bool q.n, .bool q.v, .bool q.d, .bool q.i, .bool q.z, .bool q.c]) (by simp [results, Tryd.results54, go_sem, c]) rfl ⟨q, rfl, ?_⟩
  repeat first | exact HO2.out | refine CurOut.put ?_ HC.out (Nat.le_refl _) _ _
set_option maxHeartbeats 1000000 in
theorem l04Pc_c (w0 : World) (A : Option Addr) (n cap : Nat) (xs : List Int) (cb : Nat) (w : World) (hc : Cur w0 A n cap xs cb w) :
    Calls Tryd.prog 53 #[.pointer (some ⟨cb, 0, none⟩)] w fun e w' => ∃ x : Int, (0 ≤ x ∧ x < 65536) ∧ e = .returned (.int .u16 x) ∧ CurOut w0 A n cap xs cb w w' := by
  have HC := Lib.hid hc
  clear hc
  go_enter Tryd.func53, Tryd.ntmps53
  go_wp2_with fail
  refine (l01Below_c w0 A n cap xs cb _ (HC.out.later (Dn.drewN w 0)) 65536 (by omega) (by omega)).mono ?_
  rintro e w1 ⟨x, hx, rfl, hc1⟩
  have h1 := hc1.1
  go_wp2_with fail
  refine (pick_new w0 A n cap xs cb _ (h1.later (Dn.drewN w1 0)) [0, 255, 512, 4096, 32768, 65535, 65530, x] (by simp) (by simp) 3).mono ?_
  rintro e w2 ⟨y, hy, rfl, hc2⟩
  have hy2 : 0 ≤ y ∧ y < 65536 := by simp at hy; omega
  go_wp2
  go_returns
  exact ⟨_, hy2, rfl, hc1.trans hc2⟩
set_option maxHeartbeats 1000000 in
theorem l05Cpu_c (w0 : World) (A : Option Addr) (n cap : Nat) (xs : List Int) (cb : Nat) (w : World) (hc : Cur w0 A n cap xs cb w) :
    Calls Tryd.prog 31 #[.pointer (some ⟨cb, 0, none⟩)] w fun e w' => ∃ c : Cp, c.ok ∧ e = .returned (.agg #[.int .u8 c.a, .int .u8 c.x, .int .u8 c.y, .int .u8 c.s, .int .u16 c.pc, .bool c.f.n, .bool c.f.v, .bool c.f.d, .bool c.f.i, .bool c.f.z, .bool c.f.c]) ∧ CurOut w0 A n cap xs cb w w' := by
  have HC := Lib.hid hc
  clear hc
  go_enter Tryd.func31, Tryd.ntmps31
  go_wp2_with fail
  have hlt := HC.out.lt
  have hgr : ∀ {w1 w2 : World} {cs : Array Value}, w1.grownBy w2 (some cb) → Bk w1 w.heap.size 28 cs → Bk w2 w.heap.size 28 cs := fun h k => k.grown h (by intro e; injection e; omega)
  refine (l02Byte_c w0 A n cap xs cb _ (HC.out.later (Dn.al w (.cells #[.int .u8 0, .int .u8 0, .int .u8 0, .int .u8 0, .int .u16 0, .bool false, .bool false, .bool false, .bool false, .bool false, .bool false] 28)))).mono ?_
  rintro e w1 ⟨a, ha, rfl, hc1⟩
  have K1 := Lib.hid (hgr hc1.2 (Bk.new w 28 #[.int .u8 0, .int .u8 0, .int .u8 0, .int .u8 0, .int .u16 0, .bool false, .bool false, .bool false, .bool false, .bool false, .bool false]))
  have HO1 := Lib.hid (CurOut.al HC.out _ hc1)
  clear hc1
  go_wp2_with fail
  refine (l02Byte_c w0 A n cap xs cb _ HO1.out.1).mono ?_
  rintro e w2 ⟨x, hx, rfl, hc2⟩
  have K2 := Lib.hid (hgr hc2.2 K1.out)
  have HO2 := Lib.hid (HO1.out.trans hc2)
  clear hc2 K1 HO1
  go_wp2_with fail
  refine (l02Byte_c w0 A n cap xs cb _ HO2.out.1).mono ?_
  rintro e w3 ⟨y, hy, rfl, hc3⟩
  have K3 := Lib.hid (hgr hc3.2 K2.out)
  have HO3 := Lib.hid (HO2.out.trans hc3)
  clear hc3 K2 HO2
  go_wp2_with fail
  refine (pick_new w0 A n cap xs cb _ HO3.out.1 [255, 253, 0, 1, 200] (by decide) (by decide) 3).mono ?_
  rintro e w4 ⟨s, hs, rfl, hc4⟩
  have hs2 : 0 ≤ s ∧ s < 256 := by simp at hs; omega
  have K4 := Lib.hid (hgr hc4.2 K3.out)
  have HO4 := Lib.hid (HO3.out.trans hc4)
  clear hc4 K3 HO3 hs
  go_wp2_with fail
  refine (l04Pc_c w0 A n cap xs cb _ HO4.out.1).mono ?_
  rintro e w5 ⟨pc, hpc, rfl, hc5⟩
  have K5 := Lib.hid (hgr hc5.2 K4.out)
  have HO5 := Lib.hid (HO4.out.trans hc5)
  clear hc5 K4 HO4
  go_wp2_with fail
  refine (l02Flags_c w0 A n cap xs cb _ HO5.out.1).mono ?_
  rintro e w6 ⟨f, rfl, hc6⟩
  have K6 := Lib.hid (hgr hc6.2 K5.out)
  have HO6 := Lib.hid (HO5.out.trans hc6)
  clear hc6 K5 HO5
  have c := K6.out.cell
  have fz := K6.out.frozen
  go_wp2
  refine bodyPost_ret (v := .agg #[.int .u8 a, .int .u8 x, .int .u8 y, .int .u8 s, .int .u16 pc, .bool f.n, .bool f.v, .bool f.d, .bool f.i, .bool f.z, .bool f.c]) (by simp [results, Tryd.results31, go_sem, c]) rfl ⟨⟨a, x, y, s, pc, f⟩, ⟨ha, hx, hy, hs2, hpc⟩, rfl, ?_⟩
  repeat first | exact HO6.out | refine CurOut.put ?_ HC.out (Nat.le_refl _) _ _
set_option maxHeartbeats 1000000 in
theorem l03Code_c (w0 : World) (A : Option Addr) (n cap : Nat) (xs : List Int) (cb : Nat) (w : World) (hc : Cur w0 A n cap xs cb w) :
    Calls Tryd.prog 55 #[.pointer (some ⟨cb, 0, none⟩)] w fun e w' => ∃ x : Int, (0 ≤ x ∧ x < 256) ∧ e = .returned (.int .u8 x) ∧ CurOut w0 A n cap xs cb w w' := by
  have HC := Lib.hid hc
  clear hc
  go_enter Tryd.func55, Tryd.ntmps55
  go_wp2_with fail
  refine (l01Byte_c w0 A n cap xs cb _ (HC.out.later (Dn.drewN w 0))).mono ?_
  rintro e w1 ⟨x, hx, rfl, hc1⟩
  have hO : CurOut w0 A n cap xs cb w w1 := hc1
  clear hc1
  go_wp2_with fail
  go_loopw [3, 4] (fun b i wr => ∃ j : Nat, j ≤ 3 ∧ i = .int .i64 j ∧ ∃ y : Int, (0 ≤ y ∧ y < 256) ∧ b = .int .u8 y ∧ CurOut w0 A n cap xs cb w wr) (fun _ i _ => 3 - (intOf i).toNat)
  case atStart => exact ⟨0, by omega, rfl, x, hx, rfl, hO⟩
  case round =>
    obtain ⟨j, hj, rfl, y, hy, rfl, hO2⟩ := hrel
    have HO2 := Lib.hid hO2
    clear hO hO2
    by_cases hlt : j < 3
    · go_wp2_with fail
      refine (sNameOf_c y hy.1 hy.2 _).mono ?_
      rintro e w2 ⟨rfl, hb2⟩
      have HO3 := Lib.hid (HO2.out.then_ hb2)
      clear hb2
      go_wp2_with fail
      · refine (l01Byte_c w0 A n cap xs cb _ (HO3.out.1.later (Dn.drewN w2 0))).mono ?_
        rintro e w3 ⟨z, hz, rfl, hc3⟩
        have HO4 := Lib.hid (HO3.out.trans hc3)
        clear hc3
        go_wp2
        go_roundw
        case rel => exact ⟨j + 1, by omega, by go_num, z, hz, rfl, HO4.out⟩
        case measure => simp [intOf]; omega
      · go_returns
        exact ⟨y, hy, rfl, HO3.out⟩
    · go_wp2
      go_returns
      exact ⟨y, hy, rfl, HO2.out⟩
end Go.Proofs.YtemahcjglmhefaaDoor
