/- The reference's Peek and Jams. No condition. -/
import Derived.Test.YtemahcjglmhefaaGreatDoorKFill
namespace Go.Proofs.YtemahcjglmhefaaGreatDoor
set_option linter.unusedVariables false
set_option linter.unusedSimpArgs false
open Go.RowKit
attribute [local irreducible] World.setCell
set_option maxHeartbeats 1000000 in
theorem sPeek_c (A : Option Addr) (n c : Nat) (xs : List Int) (a : Int) (h0 : 0 ≤ a) (h1 : a < 65536) (hs : okSize n) (w : World) (hr : Rds w .u8 A n xs) :
    Calls Tryz.prog 30 #[.agg #[.slice A n c], .int .u16 a] w fun e w' => e = .returned (.int .u8 (rd xs (a % n))) ∧ Below w.heap.size w w' := by
  have hn : 0 < n ∧ n ≤ 4096 := by unfold okSize at hs; omega
  have HS := Lib.hid ((okSizeB_iff n).2 hs)
  have i0 : 0 ≤ a % (n : Int) := Int.emod_nonneg _ (by omega)
  have i1 : a % (n : Int) < (n : Int) := Int.emod_lt_of_pos _ (by omega)
  obtain ⟨ad, rfl, hc⟩ := hr.at_ (a % n) i0 i1
  have HC := Lib.hid hc
  have e1 : a.tmod (n : Int) = a % (n : Int) := Int.tmod_eq_emod_of_nonneg h0
  have e2 : IntKind.i64.wrap a = a := by rw [IntKind.wrap_i64]; omega
  have hne : ¬ n = 0 := by omega
  clear hr hc hs
  go_enter Tryz.func30, Tryz.ntmps30
  go_wp2_with fail
  refine (sRamOk_c _ _ _ (by omega) _).mono ?_
  rintro e w1 ⟨rfl, hb1⟩
  rw [HS.out]
  have hB : Below w.heap.size w w1 := Dn.trans (Dn.al w _) hb1
  have k := (Bk.new w 30 #[.slice (some ad) n c]).later hb1
  have c0 := k.cell 0
  have hk := (hB.cell (p := ad.add (a % n).toNat) (World.block_lt_of_cell? _ _ HC.out)).trans HC.out
  generalize hxx : rd xs (a % n) = x at *
  have HX := Lib.hid hxx
  clear hxx
  have HB := Lib.hid hB
  clear hb1 k hB
  go_wp2_with fail
  go_region_held3 (fun w' => w'.cell? ⟨w.heap.size, 0, none⟩ = some (.slice (some ad) n c) ∧ w'.cell? (ad.add (a % n).toNat) = some (.int .u8 x)) (exact ⟨c0, hk⟩) (fail)
  rename_i hHeld
  clear hHeld e1 e2
  go_wp2
  go_returns
  exact ⟨by rw [HX.out]; rfl, HB.out.drew⟩
set_option maxHeartbeats 1000000 in
theorem sJams_c (A : Option Addr) (n c : Nat) (xs : List Int) (pc : Int) (h0 : 0 ≤ pc) (h1 : pc < 65536) (hs : okSize n) (hx : Byt xs) (w : World) (hr : Rds w .u8 A n xs) :
    Calls Tryz.prog 13 #[.agg #[.slice A n c], .int .u16 pc] w fun e w' => e = .returned (.bool (opF (rd xs (pc % (n : Int)))).1.isEmpty) ∧ Below w.heap.size w w' := by
  have HS := Lib.hid ((okSizeB_iff n).2 hs)
  have HR := Lib.hid hr
  have hn : n ≤ 4096 := by unfold okSize at hs; omega
  have HO := Lib.hid hs
  clear hr hs
  go_enter Tryz.func13, Tryz.ntmps13
  go_wp2_with fail
  refine (sRamOk_c _ _ _ (by omega) _).mono ?_
  rintro e w1 ⟨rfl, hb1⟩
  rw [HS.out]
  have hB := Dn.trans (Dn.al w (.cells #[.slice A n c] 30)) hb1
  have k := (Bk.new w 30 #[.slice A n c]).later hb1
  have c0 := k.cell 0
  have HB := Lib.hid hB
  clear hb1 hB k
  go_wp2_with fail
  refine (sPeek_c A n c xs pc h0 h1 HO.out _ (HR.out.later HB.out)).mono ?_
  rintro e w2 ⟨rfl, hb2⟩
  have hb := hx.rd (pc % (n : Int))
  have HB2 := Lib.hid (HB.out.trans (hb2.mono HB.out.size))
  generalize hxx : rd xs (pc % (n : Int)) = x at *
  have HX := Lib.hid hxx
  clear hb2 hxx
  go_wp2_with fail
  refine (sNameOf_c x hb.1 hb.2 _).mono ?_
  rintro e w3 ⟨rfl, hb3⟩
  have HB3 := Lib.hid (HB2.out.trans (hb3.mono HB2.out.size))
  clear hb3
  generalize hl : (opF x).1 = l at *
  have HL := Lib.hid hl
  clear hl
  go_wp2
  go_returns
  exact ⟨by rw [HX.out, HL.out]; rfl, HB3.out⟩
end Go.Proofs.YtemahcjglmhefaaGreatDoor
