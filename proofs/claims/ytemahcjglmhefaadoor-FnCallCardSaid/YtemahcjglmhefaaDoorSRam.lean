/- The reference's memories. No condition. -/
import Derived.Test.YtemahcjglmhefaaDoorFill
import Derived.Test.YtemahcjglmhefaaDoorCur4
namespace Go.Proofs.YtemahcjglmhefaaDoor
open Go.RowKit
attribute [local irreducible] World.setCell

theorem sRamOk_c (A : Option Addr) (n c : Nat) (hn : n ≤ 9223372036854775807) (w : World) : Calls Tryd.prog 7 #[.agg #[.slice A n c]] w fun e w' => e = .returned (.bool (okSizeB n)) ∧ Below w.heap.size w w' := by
  go_enter Tryd.func7, Tryd.ntmps7
  go_wp2
  all_goals go_returns
  all_goals refine ⟨?_, by go_grown⟩
  all_goals simp_all [okSizeB]
theorem made_zero (n : Nat) : (madeCells (Value.int .u8 0).cells (n * 1)).toList = nums .u8 (List.replicate n 0) := by
  apply List.ext_getElem?
  intro i
  by_cases h : i < n
  · simp [madeCells, Value.cells, nums, h, Nat.mod_one]
  · simp [madeCells, Value.cells, nums, h]
set_option maxRecDepth 100000 in
set_option maxHeartbeats 1000000 in
theorem sNewRam_c (n : Nat) (hs : okSize n) (w : World) : Calls Tryd.prog 51 #[.int .i64 n] w (RamOut w (List.replicate n 0)) := by
  have hn : 0 < n ∧ n ≤ 4096 := by unfold okSize at hs; omega
  have HS := Lib.hid ((okSizeB_iff n).2 hs)
  obtain ⟨i0, hi, hz0, hz1, hz2⟩ := info_parts info8
  clear hs
  have HN := Lib.hid hn
  clear hn
  go_enter Tryd.func51, Tryd.ntmps51
  go_wp2_with (at_make; refine wpList_make_full _ rfl _ _ 22 rfl w.heap.size 5 i0 (.int .u8 0) 1 Tryd.underlying22 hi hz0 hz1 .i64 .i64 _ _ n rfl rfl rfl rfl (by have := HN.out; rw [hz2]; omega) (by have := HN.out; unfold maxLen; omega) (by simp) ?_; intro w1 hown hgr; have hB : Below w.heap.size w w1 := (Dn.al w _).grown hgr (by simp) (by simp); have k := (Bk.new w 30 #[.slice none 0 0]).grown hgr (by simp); have hne := own_apart hown k (by decide); have HO := Lib.hid hown; have c := k.cell; have f := k.frozen; clear hgr hown k hi hz0 hz1 hz2)
  all_goals first
    | (exfalso; have hs := HS.out; simp_all [okSizeB]; done)
    | skip
  all_goals
    refine bodyPost_ret (v := .agg #[.slice (some ⟨w.heap.size + 1, 0, none⟩) n n]) (by simp [results, Tryd.results51, go_sem, c]) rfl ?_
    refine ⟨w.heap.size + 1, n, by simp, ?_, hB.setCell (p := ⟨w.heap.size, 0, none⟩) (Nat.le_refl _) _⟩
    have h2 := own_far HO.out (p := ⟨w.heap.size, 0, none⟩) hne (.slice (some ⟨w.heap.size + 1, 0, none⟩) n n)
    rw [made_zero] at h2
    simpa using h2
set_option maxHeartbeats 1000000 in
theorem sFill_c (ad : Addr) (cap : Nat) (xs : List Int) (hs : okSize xs.length) (a : Int) (h0 : 0 ≤ a) (h1 : a < 65536) (la : Option Addr) (lc : Nat) (ls : List Int) (hl : ls.length ≤ 1024) (w : World) (hr : Rds w .u8 (some ad) xs.length xs) (hls : Rds w .u8 la ls.length ls) :
    Calls Tryd.prog 32 #[.agg #[.slice (some ad) xs.length cap], .int .u16 a, .slice la ls.length lc] w (RamOut w (fillF xs a ls)) := by
  have HS := Lib.hid ((okSizeB_iff xs.length).2 hs)
  have hn : 0 < xs.length ∧ xs.length ≤ 4096 := by unfold okSize at hs; omega
  have HR := Lib.hid hr
  have HL := Lib.hid hls
  have hlb : decide ((1024 : Int) < (ls.length : Int)) = false := by simp; omega
  clear hr hls
  go_enter Tryd.func32, Tryd.ntmps32
  go_wp2_with fail
  refine (sRamOk_c _ _ _ (by omega) _).mono ?_
  rintro e w1 ⟨rfl, hb1⟩
  rw [HS.out]
  have hB1 : Below w.heap.size w w1 := Dn.trans (Dn.al w _) (Dn.trans (Dn.al _ _) hb1)
  have k0 := ((Bk.new w 30 #[.slice (some ad) xs.length cap]).al (.cells #[.slice none 0 0] 30)).later hb1
  have k1 := (Bk.new1 w (.cells #[.slice (some ad) xs.length cap] 30) 30 #[.slice none 0 0]).later hb1
  have hlt0 := k0.lt
  have c0 : ∀ o, (w1.alloc o).cell? ⟨w.heap.size, 0, none⟩ = some (.slice (some ad) xs.length cap) := fun o => (World.cell?_alloc_lt w1 o _ hlt0).trans (k0.cell 0)
  have hr1 := HR.out.later hB1
  obtain ⟨hlen, _, hc⟩ := hr1
  obtain ⟨ad', e, hc⟩ := hc hn.1
  cases e
  have hlt : ad.block < w1.heap.size := by
    have := World.block_lt_of_cell? w1 _ (hc 0 hn.1)
    simpa [Addr.add] using this
  have hnews : ∀ o j u, (nums .u8 xs)[j]? = some u → (w1.alloc o).cell? (ad.add j) = some u := by
    intro o j u hu
    obtain ⟨hj, rfl⟩ := nums_get hu
    rw [World.cell?_alloc_lt w1 _ _ (by rw [add_block]; exact hlt)]
    exact hc j (by omega)
  have b1 : 0 + xs.length ≤ maxLen := by unfold maxLen; omega
  have b2 : (0 + xs.length) * 1 ≤ 140737488355328 := by omega
  obtain ⟨i0, hi, hz0, hz1, hz2⟩ := info_parts info8
  clear hb1 hc hs
  go_wp2_with (at_builtin; refine wpList_append_own _ rfl (.tmp 18) (.tmp 20) 22 rfl w.heap.size 5 i0 _ 1 1 Tryd.underlying22 hi hz0 hz1 hz2 rfl (by decide) (.slice (some ⟨w1.heap.size, 0, none⟩) 0 0) 0 [] rfl (World.ownsRow_made w1 #[] 0 hB1.size (by decide) rfl) ad xs.length cap (nums .u8 xs) rfl (by rw [nums_length]; omega) (hnews _) nums_one b1 b2 (by simp; have := hB1.size; omega) ?c3)
  case c3 =>
    intro v' w2 hown hgr _
    obtain ⟨g, cap2, hv, _⟩ := hown.form hn.1
    subst hv
    have hB2 : Below w.heap.size w w2 := hB1.trans (((Below.refl _ _).alloc hB1.size _).grown hgr (Nat.le_trans hB1.size (Dn.al w1 _).size) (fun k hk => by simp [Value.ownBlock] at hk; have := hB1.size; omega))
    have k2 : Bk w2 (w.heap.size + 1) 30 #[.slice none 0 0] := (k1.al _).grown hgr (by have := k1.lt; simp [Value.ownBlock]; omega)
    have hg : w.heap.size ≤ g := (hown.lt g rfl).1
    clear hgr k0 k1 c0 hlt0 hlt hnews b1 b2 hi hz0 hz1 hz2 hc
    go_wp2_with fail
    clear hB1
    have hob0 : w.heap.size ≤ w.heap.size + 1 := by omega
    generalize w.heap.size + 1 = ob at *
    have HOB := Lib.hid hob0
    clear hob0
    go_loopw [8] (fun i wr => ∃ j : Nat, j ≤ ls.length ∧ i = .int .i64 j ∧ Bk wr ob 30 #[.slice none 0 0] ∧ wr.ownsRow w.heap.size 5 1 (.slice (some ⟨g, 0, none⟩) xs.length cap2) xs.length (nums .u8 (fillN xs a ls j)) ∧ Below w.heap.size w wr) (fun i _ => ls.length - (intOf i).toNat)
    case atStart => exact ⟨0, Nat.zero_le _, rfl, k2, hown, hB2⟩
    case round =>
      obtain ⟨j, hj, rfl, kr, ho, hB⟩ := hrel
      clear k2 hown hB2
      by_cases hlt : j < ls.length
      · have HB := Lib.hid hB
        have hlr := HL.out.later hB
        obtain ⟨ad2, rfl, hcell⟩ := hlr.at_ j (by omega) (by omega)
        have hm0 : 0 ≤ (a + j) % 65536 % (xs.length : Int) := Int.emod_nonneg _ (by omega)
        have hm1 : (a + j) % 65536 % (xs.length : Int) < (xs.length : Int) := Int.emod_lt_of_pos _ (by omega)
        have hst := ho.stored ((a + j) % 65536 % (xs.length : Int)).toNat (.int .u8 (ls.getD j 0))
        have hne := own_apart ho kr (by decide)
        have hgl := (ho.lt g rfl).2
        have hgc : wr.cell? ⟨g, ((a + j) % 65536 % (xs.length : Int)).toNat, none⟩ = some (.int .u8 ((fillN xs a ls j).getD ((a + j) % 65536 % (xs.length : Int)).toNat 0)) := by
          rw [ho.cellAt _ (by omega)]
          have hq : ((a + j) % 65536 % (xs.length : Int)).toNat < (fillN xs a ls j).length := by simp; omega
          simp [nums, List.getElem?_eq_getElem hq, List.getD_eq_getElem?_getD]
        have hgf := ho.frozenAt ((a + j) % 65536 % (xs.length : Int)).toNat
        simp only [rd, Int.toNat_natCast] at hcell
        have hnums : nums .u8 (fillN xs a ls (j + 1)) = (nums .u8 (fillN xs a ls j)).set ((a + j) % 65536 % (xs.length : Int)).toNat (.int .u8 (ls.getD j 0)) := by
          simp [nums, fillN, List.map_set, u16]
        have HN := Lib.hid hnums
        generalize ls.getD j 0 = v at *
        generalize (fillN xs a ls j).getD ((a + j) % 65536 % (xs.length : Int)).toNat 0 = v0 at *
        have K9 := Lib.hid (kr.far (p := ⟨g, ((a + j) % 65536 % (xs.length : Int)).toNat, none⟩) (fun e => hne (by simp [Value.ownBlock, e])) (.int .u8 v))
        have HB9 := Lib.hid (HB.out.setCell (p := ⟨g, ((a + j) % 65536 % (xs.length : Int)).toNat, none⟩) hg (.int .u8 v))
        have HST := Lib.hid hst.1
        clear hB hlr ho hnums hst kr
        go_wp2
        go_region
        go_wp2
        go_roundw
        case rel => exact ⟨j + 1, by omega, by go_num, K9.out, by rw [HN.out]; exact HST.out, HB9.out.drew⟩
        case measure => simp [intOf]; omega
      · obtain rfl : j = ls.length := by omega
        have c1 := kr.cell
        have f1 := kr.frozen
        have hne1 := own_apart ho kr (by decide)
        have hl' := fillN_length xs a ls ls.length
        clear kr HL
        go_wp2
        refine bodyPost_ret (v := .agg #[.slice (some ⟨g, 0, none⟩) xs.length cap2]) (by simp [results, Tryd.results32, go_sem, c1]) rfl ?_
        refine ⟨g, cap2, by rw [show (fillF xs a ls).length = xs.length from hl'], ?_, hB.setCell (p := ⟨ob, 0, none⟩) HOB.out _⟩
        rw [show (fillF xs a ls).length = xs.length from hl']
        exact own_far ho (p := ⟨ob, 0, none⟩) hne1 _
end Go.Proofs.YtemahcjglmhefaaDoor
