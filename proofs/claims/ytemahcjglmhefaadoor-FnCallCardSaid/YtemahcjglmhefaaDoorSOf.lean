/- The reference's names, modes, sizes and kinds, by the program's table. No condition. -/
import Derived.Test.YtemahcjglmhefaaDoorSZero
import Derived.Test.YtemahcjglmhefaaDoorSOne
import Derived.Test.YtemahcjglmhefaaDoorSTwo
namespace Go.Proofs.YtemahcjglmhefaaDoor
open Go.RowKit

def sOf (code : Int) : List UInt8 × Int := if code % 4 = 0 then sZero (code / 32) (code / 4 % 8) else if code % 4 = 1 then sOne (code / 32) (code / 4 % 8) else if code % 4 = 2 then sTwo (code / 32) (code / 4 % 8) else ([], 0)
theorem sOf_tab : ∀ k : Fin 256, (sOf (k.val : Int)).1 = (opF (k.val : Int)).1 ∧ (if (sOf (k.val : Int)).1 = [] then (-1 : Int) else (sOf (k.val : Int)).2) = (opF (k.val : Int)).2 := by decide +kernel
theorem sOf_eq (code : Int) (h0 : 0 ≤ code) (h1 : code < 256) : (sOf code).1 = (opF code).1 ∧ (if (sOf code).1 = [] then (-1 : Int) else (sOf code).2) = (opF code).2 := by
  obtain ⟨m, rfl⟩ := Int.eq_ofNat_of_zero_le h0
  exact sOf_tab ⟨m, by omega⟩
set_option maxHeartbeats 1000000 in
theorem l03Of_c (code : Int) (h0 : 0 ≤ code) (h1 : code < 256) (w : World) :
    Calls Tryd.prog 88 #[.int .u8 code] w fun e w' => e = .returned (.agg #[.string ⟨(sOf code).1.toArray⟩, .int .i64 (sOf code).2]) ∧ Below w.heap.size w w' := by
  have hr : 0 ≤ code / 32 ∧ code / 32 < 8 := by omega
  have hp : 0 ≤ code / 4 % 8 ∧ code / 4 % 8 < 8 := by omega
  go_enter Tryd.func88, Tryd.ntmps88
  go_wp2_with fail
  · have hc : code % 4 = 0 := by simpa using ‹(code % 4 == 0) = true›
    refine (sZero_c _ _ hr hp _).mono ?_
    rintro e w1 ⟨rfl, hb1⟩
    rw [show sZero (code / 32) (code / 4 % 8) = sOf code by simp [sOf, hc]]
    have k := (Bk.new w 118 #[.string ⟨#[]⟩, .int .i64 0]).later hb1
    have hB : Below w.heap.size w w1 := Dn.trans (Dn.al w _) hb1
    generalize hs : sOf code = q at *
    have HS := Lib.hid hs
    have c := k.cell
    have f := k.frozen
    clear hb1 k hs
    go_wp2
    refine bodyPost_ret (v := .agg #[.string ⟨q.1.toArray⟩, .int .i64 q.2]) (by simp [results, Tryd.results88, go_sem, c]) rfl ⟨by rw [HS.out], by first | exact hB | exact (hB.setCell (Nat.le_refl _) _) | exact ((hB.setCell (Nat.le_refl _) _).setCell (Nat.le_refl _) _)⟩
  · have hc : code % 4 = 1 := by simpa using ‹(code % 4 == 1) = true›
    refine (sOne_c _ _ hr hp _).mono ?_
    rintro e w1 ⟨rfl, hb1⟩
    rw [show sOne (code / 32) (code / 4 % 8) = sOf code by simp [sOf, hc]]
    have k := (Bk.new w 118 #[.string ⟨#[]⟩, .int .i64 0]).later hb1
    have hB : Below w.heap.size w w1 := Dn.trans (Dn.al w _) hb1
    generalize hs : sOf code = q at *
    have HS := Lib.hid hs
    have c := k.cell
    have f := k.frozen
    clear hb1 k hs
    go_wp2
    refine bodyPost_ret (v := .agg #[.string ⟨q.1.toArray⟩, .int .i64 q.2]) (by simp [results, Tryd.results88, go_sem, c]) rfl ⟨by rw [HS.out], by first | exact hB | exact (hB.setCell (Nat.le_refl _) _) | exact ((hB.setCell (Nat.le_refl _) _).setCell (Nat.le_refl _) _)⟩
  · have hc : code % 4 = 2 := by simpa using ‹(code % 4 == 2) = true›
    refine (sTwo_c _ _ hr hp _).mono ?_
    rintro e w1 ⟨rfl, hb1⟩
    rw [show sTwo (code / 32) (code / 4 % 8) = sOf code by simp [sOf, hc]]
    have k := (Bk.new w 118 #[.string ⟨#[]⟩, .int .i64 0]).later hb1
    have hB : Below w.heap.size w w1 := Dn.trans (Dn.al w _) hb1
    generalize hs : sOf code = q at *
    have HS := Lib.hid hs
    have c := k.cell
    have f := k.frozen
    clear hb1 k hs
    go_wp2
    refine bodyPost_ret (v := .agg #[.string ⟨q.1.toArray⟩, .int .i64 q.2]) (by simp [results, Tryd.results88, go_sem, c]) rfl ⟨by rw [HS.out], by first | exact hB | exact (hB.setCell (Nat.le_refl _) _) | exact ((hB.setCell (Nat.le_refl _) _).setCell (Nat.le_refl _) _)⟩
  · refine bodyPost_ret (v := .agg #[.string ⟨#[]⟩, .int .i64 0]) (by simp [results, Tryd.results88, go_sem]) rfl ⟨by simp_all [sOf], by go_grown⟩
theorem op_name (b : ByteArray) (m : Int) (w : World) : (Instr.field 118 (.agg #[.string b, .int .i64 m]) 0).run Tryd.prog w = .ok (.string b) w := by kernel_rfl
theorem op_mode (b : ByteArray) (m : Int) (w : World) : (Instr.field 118 (.agg #[.string b, .int .i64 m]) 1).run Tryd.prog w = .ok (.int .i64 m) w := by kernel_rfl
theorem sNameOf_c (code : Int) (h0 : 0 ≤ code) (h1 : code < 256) (w : World) :
    Calls Tryd.prog 73 #[.int .u8 code] w fun e w' => e = .returned (.string ⟨(opF code).1.toArray⟩) ∧ Below w.heap.size w w' := by
  have HQ := Lib.hid (sOf_eq code h0 h1).1
  go_enter Tryd.func73, Tryd.ntmps73
  go_wp2_with fail
  refine (l03Of_c code h0 h1 _).mono ?_
  rintro e w1 ⟨rfl, hb1⟩
  have hf := op_name ⟨(sOf code).1.toArray⟩ (sOf code).2 w1
  go_wp2
  go_returns
  exact ⟨by rw [HQ.out]; rfl, hb1⟩
theorem sModeOf_c (code : Int) (h0 : 0 ≤ code) (h1 : code < 256) (w : World) :
    Calls Tryd.prog 74 #[.int .u8 code] w fun e w' => e = .returned (.int .i64 (opF code).2) ∧ Below w.heap.size w w' := by
  have HQ := Lib.hid (sOf_eq code h0 h1)
  go_enter Tryd.func74, Tryd.ntmps74
  go_wp2_with fail
  refine (sNameOf_c code h0 h1 _).mono ?_
  rintro e w1 ⟨rfl, hb1⟩
  go_wp2_with fail
  · go_returns
    refine ⟨?_, hb1⟩
    obtain ⟨q1, q2⟩ := HQ.out
    have hn : (opF code).1 = [] := by simpa using ‹(opF code).1.isEmpty = true›
    rw [q1, if_pos hn] at q2
    rw [← q2]
    rfl
  · refine (l03Of_c code h0 h1 _).mono ?_
    rintro e w2 ⟨rfl, hb2⟩
    have hf := op_mode ⟨(sOf code).1.toArray⟩ (sOf code).2 w2
    go_wp2
    go_returns
    refine ⟨?_, hb1.trans (hb2.mono hb1.size)⟩
    have hq := HQ.out
    have hne : ¬ (sOf code).1 = [] := by
      rw [hq.1]
      intro e
      simp_all
    rw [if_neg hne] at hq
    rw [← hq.2]
    rfl
theorem sSizeOf_c (code : Int) (h0 : 0 ≤ code) (h1 : code < 256) (w : World) :
    Calls Tryd.prog 56 #[.int .u8 code] w fun e w' => e = .returned (.int .i64 (sizeF (opF code).2)) ∧ Below w.heap.size w w' := by
  go_enter Tryd.func56, Tryd.ntmps56
  go_wp2_with fail
  refine (sModeOf_c _ h0 h1 _).mono ?_
  rintro e w1 ⟨rfl, hb1⟩
  generalize hq : (opF code).2 = m at *
  have HQ := Lib.hid hq
  clear hq
  go_wp2
  all_goals go_returns
  all_goals refine ⟨?_, hb1⟩
  all_goals have hq := HQ.out
  all_goals first | (simp [sizeF, *]; done) | (simp_all [sizeF]; done)
end Go.Proofs.YtemahcjglmhefaaDoor
