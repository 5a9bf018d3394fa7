/- A byte put into a memory. No condition. -/
import Derived.Test.YtemahcjglmhefaaDoorCur5
namespace Go.Proofs.YtemahcjglmhefaaDoor
open Go.RowKit
attribute [local irreducible] World.setCell
set_option maxHeartbeats 1000000 in
theorem Poke_c (ad : Addr) (cap : Nat) (xs : List Int) (hs : okSize xs.length) (a : Int) (h0 : 0 ≤ a) (h1 : a < 65536) (b : Int) (w : World) (hr : Rds w .u8 (some ad) xs.length xs) :
    Calls Tryd.prog 10 #[.agg #[.slice (some ad) xs.length cap], .int .u16 a, .int .u8 b] w (RamOut w (fillF xs a [b])) := by
  have HR := Lib.hid hr
  clear hr
  go_enter Tryd.func10, Tryd.ntmps10
  go_wp2_with fail
  have hB : Below w.heap.size w ((w.alloc (.cells #[.slice (some ad) xs.length cap] 30)).alloc (.cells #[.slice none 0 0] 30)) := Dn.trans (Dn.al w _) (Dn.al _ _)
  have hsz : ((w.alloc (.cells #[.slice (some ad) xs.length cap] 30)).alloc (.cells #[.slice none 0 0] 30)).heap.size = w.heap.size + 1 + 1 := by simp
  have k1 := Bk.new1 w (.cells #[.slice (some ad) xs.length cap] 30) 30 #[.slice none 0 0]
  generalize (w.alloc (.cells #[.slice (some ad) xs.length cap] 30)).alloc (.cells #[.slice none 0 0] 30) = w1 at *
  rw [← hsz]
  refine (Fill_c ad cap xs hs a h0 h1 (some ⟨w1.heap.size, 0, none⟩) 1 [b] (by simp) _ (HR.out.later (Dn.trans hB (Dn.al _ _))) (rds_new w1 [b] (by simp) .u8 5)).mono ?_
  rintro e w2 ⟨g, cap2, rfl, hown, hb2⟩
  have k2 := (k1.al (.cells #[.int .u8 b] 5)).later hb2
  have HB := Lib.hid ((Dn.trans hB (Dn.al w1 (.cells #[.int .u8 b] 5))).trans (hb2.mono (Nat.le_trans hB.size (Dn.al w1 _).size)))
  have hne := own_apart hown k2 (by decide)
  have HW := Lib.hid (own_more hown (b2 := w.heap.size) (Nat.le_trans hB.size (Dn.al w1 _).size))
  have c2 := k2.cell 0
  have f2 := k2.frozen 0
  clear hown hb2 k1 k2 hB hsz hs
  generalize fillF xs a [b] = zs at *
  go_wp2
  refine bodyPost_ret (v := .agg #[.slice (some ⟨g, 0, none⟩) zs.length cap2]) (by simp [results, Tryd.results10, go_sem, c2]) rfl ⟨g, cap2, rfl, own_far (p := ⟨w.heap.size + 1, 0, none⟩) HW.out hne _, HB.out.setCell (p := ⟨w.heap.size + 1, 0, none⟩) (Nat.le_succ _) _⟩
end Go.Proofs.YtemahcjglmhefaaDoor
