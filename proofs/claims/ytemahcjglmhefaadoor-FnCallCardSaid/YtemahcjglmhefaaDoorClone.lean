/- A copy of bytes; whether a byte is no operation. No condition. -/
import Derived.Test.YtemahcjglmhefaaDoorOp2
import Derived.Test.YtemahcjglmhefaaDoorLeaf2
namespace Go.Proofs.YtemahcjglmhefaaDoor
open Go.RowKit

theorem infoU8 : (Tryd.prog.info? 5).map (fun i => (i.zero, i.size, i.bytes)) = some (some (.int .u8 0), 1, 1) := by kernel_rfl
theorem nums_get {k : IntKind} {xs : List Int} {j : Nat} {u : Value} (h : (nums k xs)[j]? = some u) : j < xs.length ∧ u = .int k (xs.getD j 0) := by
  have hj : j < xs.length := by have := (List.getElem?_eq_some_iff.1 h).1; simpa [nums] using this
  refine ⟨hj, ?_⟩
  simp only [nums, List.getElem?_map, List.getElem?_eq_getElem hj, Option.map_some, Option.some.injEq] at h
  rw [← h, List.getD_eq_getElem?_getD, List.getElem?_eq_getElem hj]
  rfl
theorem nums_one {k : IntKind} {xs : List Int} : ∀ u ∈ nums k xs, u.oneCell' = true := by
  intro u hu
  simp only [nums, List.mem_map] at hu
  obtain ⟨x, _, rfl⟩ := hu
  rfl
set_option maxHeartbeats 1000000 in
theorem Clone_c (ad : Addr) (n c : Nat) (xs : List Int) (hn : 0 < n ∧ n ≤ 1000000) (w : World) (hr : Rds w .u8 (some ad) n xs) :
    Calls Tryd.prog 37 #[.slice (some ad) n c] w fun e w' => ∃ g cap, e = .returned (.slice (some ⟨g, 0, none⟩) n cap) ∧ w'.ownsRow w.heap.size 5 1 (.slice (some ⟨g, 0, none⟩) n cap) n (nums .u8 xs) ∧ Below w.heap.size w w' := by
  obtain ⟨i0, hi, hz0, hz1, hz2⟩ := info_parts infoU8
  obtain ⟨hlen, _, hc⟩ := hr
  obtain ⟨ad', e, hc⟩ := hc hn.1
  cases e
  have hlt : ad.block < w.heap.size := by
    have := World.block_lt_of_cell? w _ (hc 0 hn.1)
    simpa [Addr.add] using this
  have hnews : ∀ o j u, (nums .u8 xs)[j]? = some u → (w.alloc o).cell? (ad.add j) = some u := by
    intro o j u hu
    obtain ⟨hj, rfl⟩ := nums_get hu
    have hb : (ad.add j).block < w.heap.size := by rw [show (ad.add j).block = ad.block by unfold Addr.add; split <;> rfl]; exact hlt
    rw [World.cell?_alloc_lt w _ _ hb]
    exact hc j (by omega)
  have b1 : 0 + n ≤ maxLen := by unfold maxLen; omega
  have b2 : (0 + n) * 1 ≤ 140737488355328 := by omega
  have hneq := @Lib.run_eql_slice_nil Tryd.prog
  clear hc
  go_enter Tryd.func37, Tryd.ntmps37
  go_wp2_with (at_builtin; refine wpList_append_own _ rfl (.tmp 5) (.tmp 6) 22 rfl w.heap.size 5 i0 _ 1 1 Tryd.underlying22 hi hz0 hz1 hz2 rfl (by decide) (.slice (some ⟨w.heap.size, 0, none⟩) 0 0) 0 [] rfl (World.ownsRow_made w #[] 0 (Nat.le_refl _) (by decide) rfl) ad n c (nums .u8 xs) rfl (by rw [nums_length]; omega) (hnews _) nums_one b1 b2 (by simp) ?c3)
  case c3 =>
    intro v' w1 hown hgr _
    obtain ⟨g, cap, hv, _⟩ := hown.form hn.1
    have hB : Below w.heap.size w w1 := ((Below.refl _ _).alloc (Nat.le_refl _) _).grown hgr (by simp) (fun k hk => by simp [Value.ownBlock] at hk; omega)
    subst hv
    clear hgr
    go_wp2
    go_returns
    exact ⟨g, cap, rfl, by simpa using hown, hB⟩
theorem cloned_c (ad : Addr) (n c : Nat) (xs : List Int) (hn : 0 < n ∧ n ≤ 1000000) (w : World) (hr : Rds w .u8 (some ad) n xs) :
    Calls Tryd.prog 22 #[.agg #[.slice (some ad) n c]] w fun e w' => ∃ g cap, e = .returned (.agg #[.slice (some ⟨g, 0, none⟩) n cap]) ∧ w'.ownsRow w.heap.size 5 1 (.slice (some ⟨g, 0, none⟩) n cap) n (nums .u8 xs) ∧ Below w.heap.size w w' := by
  have hr2 := hr.later (Dn.trans (Dn.al w (.cells #[.slice (some ad) n c] 30)) (Dn.al _ (.cells #[.slice none 0 0] 30)))
  have hr3 := Lib.hid hr2
  clear hr2 hr
  go_enter Tryd.func22, Tryd.ntmps22
  go_wp2_with fail
  refine (Clone_c ad n c xs hn _ hr3.out).mono ?_
  rintro e w1 ⟨g, cap, rfl, hown, hb⟩
  have k2 := (Bk.new1 w (.cells #[.slice (some ad) n c] 30) 30 #[.slice none 0 0]).later hb
  have hB : Below w.heap.size w w1 := Dn.trans (Dn.al w _) (Dn.trans (Dn.al _ _) hb)
  have hown2 := own_more hown (b2 := w.heap.size) (by simp; omega)
  have hne := own_apart hown2 k2 (by decide)
  have c0 := k2.cell 0
  have f0 := k2.frozen 0
  clear hb hown k2
  go_wp2
  refine bodyPost_ret (v := .agg #[.slice (some ⟨g, 0, none⟩) n cap]) (by simp [results, Tryd.results22, go_sem, c0]) rfl ⟨g, cap, rfl, own_far hown2 (p := ⟨w.heap.size + 1, 0, none⟩) hne _, hB.setCell (p := ⟨w.heap.size + 1, 0, none⟩) (Nat.le_succ _) _⟩
/-- The memory is right, and the byte at pc is no operation. -/
def jamsF (xs : List Int) (pc : Int) : Bool := okSizeB xs.length && (opF (rd xs (pc % (xs.length : Int)))).1.isEmpty
set_option maxHeartbeats 1000000 in
theorem Jams_c (A : Option Addr) (n c : Nat) (xs : List Int) (pc : Int) (h0 : 0 ≤ pc) (h1 : pc < 65536) (hs : okSize n) (hx : Byt xs) (w : World) (hr : Rds w .u8 A n xs) (hG : Gl w) :
    Calls Tryd.prog 16 #[.agg #[.slice A n c], .int .u16 pc] w fun e w' => e = .returned (.bool (opF (rd xs (pc % (n : Int)))).1.isEmpty) ∧ Below w.heap.size w w' := by
  have HS := Lib.hid ((okSizeB_iff n).2 hs)
  have HR := Lib.hid hr
  have hn : n ≤ 4096 := by unfold okSize at hs; omega
  have hb := hx.rd (pc % (n : Int))
  clear hr
  go_enter Tryd.func16, Tryd.ntmps16
  go_wp2_with fail
  refine (RamOk_c _ _ _ (by omega) _).mono ?_
  rintro e w1 ⟨rfl, hb1⟩
  rw [HS.out]
  have k1 := (Bk.new w 30 #[.slice A n c]).later hb1
  have hB : Below w.heap.size w w1 := Dn.trans (Dn.al w _) hb1
  have c0 := k1.cell 0
  clear hb1
  go_wp2_with fail
  refine (Peek_c A n c xs pc h0 h1 hs _ (HR.out.later hB)).mono ?_
  rintro e w2 ⟨rfl, hb2⟩
  go_wp2_with fail
  refine (NameOf_c _ hb.1 hb.2 _ (hG.later (Dn.trans hB hb2))).mono ?_
  rintro e w3 ⟨rfl, hb3⟩
  go_wp2
  go_returns
  exact ⟨rfl, Dn.trans hB (Dn.trans hb2 hb3)⟩
end Go.Proofs.YtemahcjglmhefaaDoor
