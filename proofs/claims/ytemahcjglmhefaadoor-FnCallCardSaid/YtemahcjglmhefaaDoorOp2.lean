/- Name, mode, size and kind of a byte. No condition. -/
import Derived.Test.YtemahcjglmhefaaDoorOp
namespace Go.Proofs.YtemahcjglmhefaaDoor
open Go.RowKit

def sizeF (m : Int) : Int := if m = -1 then 0 else if m = 0 ∨ m = 1 then 1 else if m = 6 ∨ m = 7 ∨ m = 8 ∨ m = 9 then 3 else 2
def kindF (r : List UInt8 × Int) : Int :=
  if r.1 = [] then 0 else if r.2 = 12 then 5 else if r.1 = [74, 77, 80] then 6 else if r.1 = [74, 83, 82] then 7 else if r.1 = [82, 84, 83] then 8 else if r.1 = [82, 84, 73] then 9 else if r.1 = [66, 82, 75] then 10
  else if r.1 = [80, 72, 65] ∨ r.1 = [80, 72, 80] then 11 else if r.1 = [80, 76, 65] ∨ r.1 = [80, 76, 80] then 12 else if r.1 = [83, 84, 65] ∨ r.1 = [83, 84, 88] ∨ r.1 = [83, 84, 89] then 3
  else if r.2 = 0 ∨ r.2 = 1 then 1 else if Lib.contains [65, 83, 76, 32, 76, 83, 82, 32, 82, 79, 76, 32, 82, 79, 82, 32, 73, 78, 67, 32, 68, 69, 67] r.1 = true then 4 else 2
theorem NameOf_c (code : Int) (h0 : 0 ≤ code) (h1 : code < 256) (w : World) (hG : Gl w) :
    Calls Tryd.prog 29 #[.int .u8 code] w fun e w' => e = .returned (.string ⟨(opF code).1.toArray⟩) ∧ Below w.heap.size w w' := by
  go_enter Tryd.func29, Tryd.ntmps29
  go_wp2_with (go_at_call 39; refine (operation_c _ h0 h1 _ hG).mono ?_; rintro e w1 ⟨rfl, hb1⟩)
  go_returns
  exact ⟨rfl, hb1⟩
theorem ModeOf_c (code : Int) (h0 : 0 ≤ code) (h1 : code < 256) (w : World) (hG : Gl w) :
    Calls Tryd.prog 70 #[.int .u8 code] w fun e w' => e = .returned (.int .i64 (opF code).2) ∧ Below w.heap.size w w' := by
  go_enter Tryd.func70, Tryd.ntmps70
  go_wp2_with (go_at_call 39; refine (operation_c _ h0 h1 _ hG).mono ?_; rintro e w1 ⟨rfl, hb1⟩)
  go_returns
  exact ⟨rfl, hb1⟩
theorem SizeOf_c (code : Int) (h0 : 0 ≤ code) (h1 : code < 256) (w : World) (hG : Gl w) :
    Calls Tryd.prog 46 #[.int .u8 code] w fun e w' => e = .returned (.int .i64 (sizeF (opF code).2)) ∧ Below w.heap.size w w' := by
  go_enter Tryd.func46, Tryd.ntmps46
  go_wp2_with fail
  refine (ModeOf_c _ h0 h1 _ hG).mono ?_
  rintro e w1 ⟨rfl, hb1⟩
  generalize hq : (opF code).2 = m at *
  have HQ := Lib.hid hq
  clear hq
  go_wp2
  all_goals go_returns
  all_goals refine ⟨?_, hb1⟩
  all_goals have hq := HQ.out
  all_goals first | (simp [sizeF, *]; done) | (simp_all [sizeF]; done)
theorem Contains_c (s sub : ByteArray) (w : World) (hs : s.size < 4294967281) (hG : Gl w) :
    Calls Tryd.prog 61 #[.string s, .string sub] w fun e w' => e = .returned (.bool (Lib.contains s.data.toList sub.data.toList)) ∧ w' = w := by
  obtain ⟨_, _, m, hm⟩ := hG
  exact Tryd.strings_Contains s sub m w hs hm
set_option maxHeartbeats 1000000 in
theorem KindOf_c (code : Int) (h0 : 0 ≤ code) (h1 : code < 256) (w : World) (hG : Gl w) :
    Calls Tryd.prog 40 #[.int .u8 code] w fun e w' => e = .returned (.int .i64 (kindF (opF code))) ∧ Below w.heap.size w w' := by
  go_enter Tryd.func40, Tryd.ntmps40
  go_wp2_with fail
  refine (operation_c _ h0 h1 _ hG).mono ?_
  rintro e w1 ⟨rfl, hb1⟩
  have hG1 := hG.later hb1
  generalize hq : opF code = r at *
  obtain ⟨n, m⟩ := r
  have HQ := Lib.hid hq
  clear hq
  clear hG
  go_wp2_with (go_at_call 61; refine (Contains_c _ _ _ (by decide) hG1).mono ?_; rintro e w2 ⟨rfl, rfl⟩)
  all_goals go_returns
  all_goals refine ⟨?_, hb1⟩
  all_goals have hq := HQ.out
  all_goals first | (simp [kindF, *]; done) | (simp_all [kindF]; done)
end Go.Proofs.YtemahcjglmhefaaDoor
