/- Bytes put into a memory. No condition. The reference's memories. No condition. Draws of memories. No condition. A byte put into a memory. No condition. -/
import Derived.Test.YtemahcjglmhefaaGreatDoorKMem
import Derived.Test.YtemahcjglmhefaaGreatDoorKOp
import Derived.Deep.RegionHeld3
import Derived.Test.YtemahcjglmhefaaGreatDoorKSOf
import Derived.BigRegion
import Derived.StillTailTactics
namespace Go.Proofs.YtemahcjglmhefaaGreatDoor
set_option linter.unusedVariables false
set_option linter.unusedSimpArgs false
open Go.RowKit
attribute [local irreducible] World.setCell

def fillN (xs : List Int) (a : Int) (ls : List Int) : Nat → List Int
  | 0 => xs
  | j + 1 => (fillN xs a ls j).set (u16 (a + j) % (xs.length : Int)).toNat (ls.getD j 0)
@[simp] theorem fillN_length (xs : List Int) (a : Int) (ls : List Int) (j : Nat) : (fillN xs a ls j).length = xs.length := by
  induction j with
  | zero => rfl
  | succ j ih => simp [fillN, ih]
theorem fillN_byt {xs : List Int} (h : Byt xs) (a : Int) {ls : List Int} (hl : Byt ls) (j : Nat) : Byt (fillN xs a ls j) := by
  induction j with
  | zero => exact h
  | succ j ih =>
    intro x hx
    rcases List.mem_or_eq_of_mem_set hx with h1 | h1
    · exact ih x h1
    · have := hl.rd j
      simp only [rd, Int.toNat_natCast] at this
      rw [h1]
      exact this
def fillF (xs : List Int) (a : Int) (ls : List Int) : List Int := fillN xs a ls ls.length
/-- A memory of the call's own. -/
def RamOut (w : World) (xs : List Int) (e : Ending) (w' : World) : Prop := ∃ g cap, e = .returned (.agg #[.slice (some ⟨g, 0, none⟩) xs.length cap]) ∧
  w'.ownsRow w.heap.size 5 1 (.slice (some ⟨g, 0, none⟩) xs.length cap) xs.length (nums .u8 xs) ∧ Below w.heap.size w w'
set_option maxHeartbeats 1000000 in
theorem Fill_c (ad : Addr) (cap : Nat) (xs : List Int) (hs : okSize xs.length) (a : Int) (h0 : 0 ≤ a) (h1 : a < 65536) (la : Option Addr) (lc : Nat) (ls : List Int) (hl : ls.length ≤ 1024) (w : World) (hr : Rds w .u8 (some ad) xs.length xs) (hls : Rds w .u8 la ls.length ls) :
    Calls Tryz.prog 26 #[.agg #[.slice (some ad) xs.length cap], .int .u16 a, .slice la ls.length lc] w (RamOut w (fillF xs a ls)) := by
  have HS := Lib.hid ((okSizeB_iff xs.length).2 hs)
  have hn : 0 < xs.length ∧ xs.length ≤ 4096 := by unfold okSize at hs; omega
  have HR := Lib.hid hr
  have HL := Lib.hid hls
  have hlb : decide ((1024 : Int) < (ls.length : Int)) = false := by simp; omega
  clear hr hls
  go_enter Tryz.func26, Tryz.ntmps26
  go_wp2_with fail
  refine (RamOk_c _ _ _ (by omega) _).mono ?_
  rintro e w1 ⟨rfl, hb1⟩
  rw [HS.out]
  have hB1 : Below w.heap.size w w1 := Dn.trans (Dn.al w _) (Dn.trans (Dn.al _ _) hb1)
  have k0 := ((Bk.new w 30 #[.slice (some ad) xs.length cap]).al (.cells #[.slice none 0 0] 30)).later hb1
  have k1 := (Bk.new1 w (.cells #[.slice (some ad) xs.length cap] 30) 30 #[.slice none 0 0]).later hb1
  have c0 := k0.cell 0
  clear hb1
  go_wp2_with fail
  refine (cloned_c ad xs.length cap xs (by omega) _ (HR.out.later hB1)).mono ?_
  rintro e w2 ⟨g, cap2, rfl, hown, hb2⟩
  have k1' := (k1.later hb2).al (.cells #[.slice (some ⟨g, 0, none⟩) xs.length cap2] 30)
  have k2 := Bk.new w2 30 #[.slice (some ⟨g, 0, none⟩) xs.length cap2]
  have hown2 := (own_more hown (b2 := w.heap.size) hB1.size).alloc (.cells #[.slice (some ⟨g, 0, none⟩) xs.length cap2] 30)
  have hB2 : Below w.heap.size w (w2.alloc (.cells #[.slice (some ⟨g, 0, none⟩) xs.length cap2] 30)) := Dn.trans hB1 (Dn.trans hb2 (Dn.al _ _))
  have hlt2 : w.heap.size + 1 < w2.heap.size := Nat.lt_of_lt_of_le k1.lt hb2.size
  have hg : w.heap.size ≤ g := (hown2.lt g rfl).1
  clear hown hb2 c0 k0 k1
  go_wp2_with fail
  generalize w2.alloc (.cells #[.slice (some ⟨g, 0, none⟩) xs.length cap2] 30) = w3 at *
  generalize w2.heap.size = ob at *
  go_loopw [8, 9, 23] (fun _ _ i wr => ∃ j : Nat, j ≤ ls.length ∧ i = .int .i64 j ∧ Bk wr (w.heap.size + 1) 30 #[.slice none 0 0] ∧ Bk wr ob 30 #[.slice (some ⟨g, 0, none⟩) xs.length cap2] ∧ wr.ownsRow w.heap.size 5 1 (.slice (some ⟨g, 0, none⟩) xs.length cap2) xs.length (nums .u8 (fillN xs a ls j)) ∧ Below w.heap.size w wr) (fun _ _ i _ => ls.length - (intOf i).toNat)
  case atStart => exact ⟨0, Nat.zero_le _, rfl, k1', k2, hown2, hB2⟩
  case round =>
    obtain ⟨j, hj, rfl, kr, ko, ho, hB⟩ := hrel
    clear k1' k2 hown2 hB2
    by_cases hlt : j < ls.length
    · have HB := Lib.hid hB
      have hlr := HL.out.later hB
      obtain ⟨ad2, rfl, hcell⟩ := hlr.at_ j (by omega) (by omega)
      have o1 := u16_ok (a + j)
      have p1 : IntKind.u16.wrap (a + IntKind.u16.wrap j) = u16 (a + j) := by rw [wrap_u16, wrap_u16]; unfold u16; omega
      have p2 : IntKind.u16.wrap (a + j) = u16 (a + j) := wrap_u16 _
      have hm0 : 0 ≤ u16 (a + j) % (xs.length : Int) := Int.emod_nonneg _ (by omega)
      have hm1 : u16 (a + j) % (xs.length : Int) < (xs.length : Int) := Int.emod_lt_of_pos _ (by omega)
      have hst := ho.stored (u16 (a + j) % (xs.length : Int)).toNat (.int .u8 (ls.getD j 0))
      have hne : g ≠ ob := fun e => own_apart ho ko (by decide) (by simp [Value.ownBlock, e])
      have hne1 : g ≠ w.heap.size + 1 := fun e => own_apart ho kr (by decide) (by simp [Value.ownBlock, e])
      have hgl := (ho.lt g rfl).2
      have hgc : wr.cell? ⟨g, (u16 (a + j) % (xs.length : Int)).toNat, none⟩ = some (.int .u8 ((fillN xs a ls j).getD (u16 (a + j) % (xs.length : Int)).toNat 0)) := by
        rw [ho.cellAt _ (by omega)]
        have hq : (u16 (a + j) % (xs.length : Int)).toNat < (fillN xs a ls j).length := by simp; omega
        simp [nums, List.getElem?_eq_getElem hq, List.getD_eq_getElem?_getD]
      have hgf := ho.frozenAt (u16 (a + j) % (xs.length : Int)).toNat
      have c0 := ko.cell 0
      simp only [rd, Int.toNat_natCast] at hcell
      have lt1 := ko.lt
      have hnums : nums .u8 (fillN xs a ls (j + 1)) = (nums .u8 (fillN xs a ls j)).set (u16 (a + j) % (xs.length : Int)).toNat (.int .u8 (ls.getD j 0)) := by
        simp [nums, fillN, List.map_set]
      have HN := Lib.hid hnums
      generalize ls.getD j 0 = v at *
      generalize (fillN xs a ls j).getD (u16 (a + j) % (xs.length : Int)).toNat 0 = v0 at *
      have HO := Lib.hid ho
      clear hB hlr ho hnums hst
      go_wp2_with fail
      go_region_held3 (fun w' => w'.cell? ⟨ob, 0, none⟩ = some (.slice (some ⟨g, 0, none⟩) xs.length cap2)) (first | exact c0 | exact (hb9.cell lt1).trans c0 | (rw [World.cell?_setCell_other _ _ _ _ (fun e => hne (congrArg Addr.block e))]; exact (hb9.cell lt1).trans c0)) (first | (go_at_call 52; refine (at_c _ _ _ _ o1.1 o1.2 hn.1 (by omega) _).mono ?_; rintro e w9 ⟨rfl, hb9⟩; have q1 := (hb9.cell (p := ⟨g, (u16 (a + j) % (xs.length : Int)).toNat, none⟩) hgl).trans hgc; have q2 := (hb9.frozen (p := ⟨g, (u16 (a + j) % (xs.length : Int)).toNat, none⟩) hgl).trans hgf))
      rename_i hHeld
      clear hHeld
      have k9 := kr.drew.later hb9
      have ko9 := ko.drew.later hb9
      have ho9 := own_later HO.out (w' := w9) (Dn.trans (Dn.drew wr) hb9)
      have hst := ho9.stored (u16 (a + j) % (xs.length : Int)).toNat (.int .u8 v)
      have HB9 := Lib.hid (((Bl.then_ HB.out HB.out.size (Dn.trans (Dn.drew wr) hb9))).setCell (p := ⟨g, (u16 (a + j) % (xs.length : Int)).toNat, none⟩) hg (.int .u8 v))
      have K9 := Lib.hid (k9.far (p := ⟨g, (u16 (a + j) % (xs.length : Int)).toNat, none⟩) (fun e => hne1 e.symm) (.int .u8 v))
      have KO9 := Lib.hid (ko9.far (p := ⟨g, (u16 (a + j) % (xs.length : Int)).toNat, none⟩) (fun e => hne e.symm) (.int .u8 v))
      have HST := Lib.hid hst.1
      clear k9 ko9 ho9 hst kr ko c0 q1 q2 hgc hgf
      go_wp2
      go_roundw
      case rel => exact ⟨j + 1, by omega, by go_num, K9.out, KO9.out, by rw [HN.out]; exact HST.out, HB9.out⟩
      case measure => simp [intOf]; omega
    · obtain rfl : j = ls.length := by omega
      have c0 := ko.cell 0
      have c1 := kr.cell 0
      have f1 := kr.frozen 0
      have hne1 := own_apart ho kr (by decide)
      have hl' := fillN_length xs a ls ls.length
      clear kr ko HL
      go_wp2
      refine bodyPost_ret (v := .agg #[.slice (some ⟨g, 0, none⟩) xs.length cap2]) (by simp [results, Tryz.results26, go_sem, c1]) rfl ?_
      refine ⟨g, cap2, by rw [show (fillF xs a ls).length = xs.length from hl'], ?_, hB.setCell (p := ⟨w.heap.size + 1, 0, none⟩) (Nat.le_succ _) _⟩
      rw [show (fillF xs a ls).length = xs.length from hl']
      exact own_far ho (p := ⟨w.heap.size + 1, 0, none⟩) hne1 _
end Go.Proofs.YtemahcjglmhefaaGreatDoor
namespace Go.Proofs.YtemahcjglmhefaaGreatDoor
set_option linter.unusedVariables false
set_option linter.unusedSimpArgs false
open Go.RowKit
attribute [local irreducible] World.setCell

theorem sRamOk_c (A : Option Addr) (n c : Nat) (hn : n ≤ 9223372036854775807) (w : World) : Calls Tryz.prog 9 #[.agg #[.slice A n c]] w fun e w' => e = .returned (.bool (okSizeB n)) ∧ Below w.heap.size w w' := by
  go_enter Tryz.func9, Tryz.ntmps9
  go_wp2
  all_goals go_returns
  all_goals refine ⟨?_, by go_grown⟩
  all_goals simp_all [okSizeB]
theorem made_zero (n : Nat) : (madeCells (Value.int .u8 0).cells (n * 1)).toList = nums .u8 (List.replicate n 0) := by
  apply List.ext_getElem?
  intro i
  by_cases h : i < n
  · simp [madeCells, Value.cells, nums, h, Nat.mod_one]
  · simp [madeCells, Value.cells, nums, h]
set_option maxRecDepth 100000 in
set_option maxHeartbeats 1000000 in
theorem sNewRam_c (n : Nat) (hs : okSize n) (w : World) : Calls Tryz.prog 66 #[.int .i64 n] w (RamOut w (List.replicate n 0)) := by
  have hn : 0 < n ∧ n ≤ 4096 := by unfold okSize at hs; omega
  have HS := Lib.hid ((okSizeB_iff n).2 hs)
  obtain ⟨i0, hi, hz0, hz1, hz2⟩ := info_parts info8
  clear hs
  have HN := Lib.hid hn
  clear hn
  go_enter Tryz.func66, Tryz.ntmps66
  go_wp2_with (at_make; refine wpList_make_full _ rfl _ _ 22 rfl w.heap.size 5 i0 (.int .u8 0) 1 Tryz.underlying22 hi hz0 hz1 .i64 .i64 _ _ n rfl rfl rfl rfl (by have := HN.out; rw [hz2]; omega) (by have := HN.out; unfold maxLen; omega) (by simp) ?_; intro w1 hown hgr; have hB : Below w.heap.size w w1 := (Dn.al w _).grown hgr (by simp) (by simp); have k := (Bk.new w 30 #[.slice none 0 0]).grown hgr (by simp); have hne := own_apart hown k (by decide); have HO := Lib.hid hown; have c := k.cell; have f := k.frozen; clear hgr hown k hi hz0 hz1 hz2)
  all_goals first
    | (exfalso; have hs := HS.out; simp_all [okSizeB]; done)
    | skip
  all_goals
    refine bodyPost_ret (v := .agg #[.slice (some ⟨w.heap.size + 1, 0, none⟩) n n]) (by simp [results, Tryz.results66, go_sem, c]) rfl ?_
    refine ⟨w.heap.size + 1, n, by simp, ?_, hB.setCell (p := ⟨w.heap.size, 0, none⟩) (Nat.le_refl _) _⟩
    have h2 := own_far HO.out (p := ⟨w.heap.size, 0, none⟩) hne (.slice (some ⟨w.heap.size + 1, 0, none⟩) n n)
    rw [made_zero] at h2
    simpa using h2
set_option maxHeartbeats 1000000 in
theorem sFill_c (ad : Addr) (cap : Nat) (xs : List Int) (hs : okSize xs.length) (a : Int) (h0 : 0 ≤ a) (h1 : a < 65536) (la : Option Addr) (lc : Nat) (ls : List Int) (hl : ls.length ≤ 1024) (w : World) (hr : Rds w .u8 (some ad) xs.length xs) (hls : Rds w .u8 la ls.length ls) :
    Calls Tryz.prog 38 #[.agg #[.slice (some ad) xs.length cap], .int .u16 a, .slice la ls.length lc] w (RamOut w (fillF xs a ls)) := by
  have HS := Lib.hid ((okSizeB_iff xs.length).2 hs)
  have hn : 0 < xs.length ∧ xs.length ≤ 4096 := by unfold okSize at hs; omega
  have HR := Lib.hid hr
  have HL := Lib.hid hls
  have hlb : decide ((1024 : Int) < (ls.length : Int)) = false := by simp; omega
  clear hr hls
  go_enter Tryz.func38, Tryz.ntmps38
  go_wp2_with fail
  refine (sRamOk_c _ _ _ (by omega) _).mono ?_
  rintro e w1 ⟨rfl, hb1⟩
  rw [HS.out]
  have hB1 : Below w.heap.size w w1 := Dn.trans (Dn.al w _) (Dn.trans (Dn.al _ _) hb1)
  have k0 := ((Bk.new w 30 #[.slice (some ad) xs.length cap]).al (.cells #[.slice none 0 0] 30)).later hb1
  have k1 := (Bk.new1 w (.cells #[.slice (some ad) xs.length cap] 30) 30 #[.slice none 0 0]).later hb1
  have hlt0 := k0.lt
  have c0 : ∀ o, (w1.alloc o).cell? ⟨w.heap.size, 0, none⟩ = some (.slice (some ad) xs.length cap) := fun o => (World.cell?_alloc_lt w1 o _ hlt0).trans (k0.cell 0)
  have hr1 := HR.out.later hB1
  obtain ⟨hlen, _, hc⟩ := hr1
  obtain ⟨ad', e, hc⟩ := hc hn.1
  cases e
  have hlt : ad.block < w1.heap.size := by
    have := World.block_lt_of_cell? w1 _ (hc 0 hn.1)
    simpa [Addr.add] using this
  have hnews : ∀ o j u, (nums .u8 xs)[j]? = some u → (w1.alloc o).cell? (ad.add j) = some u := by
    intro o j u hu
    obtain ⟨hj, rfl⟩ := nums_get hu
    rw [World.cell?_alloc_lt w1 _ _ (by rw [add_block]; exact hlt)]
    exact hc j (by omega)
  have b1 : 0 + xs.length ≤ maxLen := by unfold maxLen; omega
  have b2 : (0 + xs.length) * 1 ≤ 140737488355328 := by omega
  obtain ⟨i0, hi, hz0, hz1, hz2⟩ := info_parts info8
  clear hb1 hc hs
  go_wp2_with (at_builtin; refine wpList_append_own _ rfl (.tmp 18) (.tmp 20) 22 rfl w.heap.size 5 i0 _ 1 1 Tryz.underlying22 hi hz0 hz1 hz2 rfl (by decide) (.slice (some ⟨w1.heap.size, 0, none⟩) 0 0) 0 [] rfl (World.ownsRow_made w1 #[] 0 hB1.size (by decide) rfl) ad xs.length cap (nums .u8 xs) rfl (by rw [nums_length]; omega) (hnews _) nums_one b1 b2 (by simp; have := hB1.size; omega) ?c3)
  case c3 =>
    intro v' w2 hown hgr _
    obtain ⟨g, cap2, hv, _⟩ := hown.form hn.1
    subst hv
    have hB2 : Below w.heap.size w w2 := hB1.trans (((Below.refl _ _).alloc hB1.size _).grown hgr (Nat.le_trans hB1.size (Dn.al w1 _).size) (fun k hk => by simp [Value.ownBlock] at hk; have := hB1.size; omega))
    have k2 : Bk w2 (w.heap.size + 1) 30 #[.slice none 0 0] := (k1.al _).grown hgr (by have := k1.lt; simp [Value.ownBlock]; omega)
    have hg : w.heap.size ≤ g := (hown.lt g rfl).1
    clear hgr k0 k1 c0 hlt0 hlt hnews b1 b2 hi hz0 hz1 hz2 hc
    go_wp2_with fail
    clear hB1
    have hob0 : w.heap.size ≤ w.heap.size + 1 := by omega
    generalize w.heap.size + 1 = ob at *
    have HOB := Lib.hid hob0
    clear hob0
    go_loopw [8] (fun i wr => ∃ j : Nat, j ≤ ls.length ∧ i = .int .i64 j ∧ Bk wr ob 30 #[.slice none 0 0] ∧ wr.ownsRow w.heap.size 5 1 (.slice (some ⟨g, 0, none⟩) xs.length cap2) xs.length (nums .u8 (fillN xs a ls j)) ∧ Below w.heap.size w wr) (fun i _ => ls.length - (intOf i).toNat)
    case atStart => exact ⟨0, Nat.zero_le _, rfl, k2, hown, hB2⟩
    case round =>
      obtain ⟨j, hj, rfl, kr, ho, hB⟩ := hrel
      clear k2 hown hB2
      by_cases hlt : j < ls.length
      · have HB := Lib.hid hB
        have hlr := HL.out.later hB
        obtain ⟨ad2, rfl, hcell⟩ := hlr.at_ j (by omega) (by omega)
        have hm0 : 0 ≤ (a + j) % 65536 % (xs.length : Int) := Int.emod_nonneg _ (by omega)
        have hm1 : (a + j) % 65536 % (xs.length : Int) < (xs.length : Int) := Int.emod_lt_of_pos _ (by omega)
        have hst := ho.stored ((a + j) % 65536 % (xs.length : Int)).toNat (.int .u8 (ls.getD j 0))
        have hne := own_apart ho kr (by decide)
        have hgl := (ho.lt g rfl).2
        have hgc : wr.cell? ⟨g, ((a + j) % 65536 % (xs.length : Int)).toNat, none⟩ = some (.int .u8 ((fillN xs a ls j).getD ((a + j) % 65536 % (xs.length : Int)).toNat 0)) := by
          rw [ho.cellAt _ (by omega)]
          have hq : ((a + j) % 65536 % (xs.length : Int)).toNat < (fillN xs a ls j).length := by simp; omega
          simp [nums, List.getElem?_eq_getElem hq, List.getD_eq_getElem?_getD]
        have hgf := ho.frozenAt ((a + j) % 65536 % (xs.length : Int)).toNat
        simp only [rd, Int.toNat_natCast] at hcell
        have hnums : nums .u8 (fillN xs a ls (j + 1)) = (nums .u8 (fillN xs a ls j)).set ((a + j) % 65536 % (xs.length : Int)).toNat (.int .u8 (ls.getD j 0)) := by
          simp [nums, fillN, List.map_set, u16]
        have HN := Lib.hid hnums
        generalize ls.getD j 0 = v at *
        generalize (fillN xs a ls j).getD ((a + j) % 65536 % (xs.length : Int)).toNat 0 = v0 at *
        have K9 := Lib.hid (kr.far (p := ⟨g, ((a + j) % 65536 % (xs.length : Int)).toNat, none⟩) (fun e => hne (by simp [Value.ownBlock, e])) (.int .u8 v))
        have HB9 := Lib.hid (HB.out.setCell (p := ⟨g, ((a + j) % 65536 % (xs.length : Int)).toNat, none⟩) hg (.int .u8 v))
        have HST := Lib.hid hst.1
        clear hB hlr ho hnums hst kr
        go_wp2
        go_region
        go_wp2
        go_roundw
        case rel => exact ⟨j + 1, by omega, by go_num, K9.out, by rw [HN.out]; exact HST.out, HB9.out.drew⟩
        case measure => simp [intOf]; omega
      · obtain rfl : j = ls.length := by omega
        have c1 := kr.cell
        have f1 := kr.frozen
        have hne1 := own_apart ho kr (by decide)
        have hl' := fillN_length xs a ls ls.length
        clear kr HL
        go_wp2
        refine bodyPost_ret (v := .agg #[.slice (some ⟨g, 0, none⟩) xs.length cap2]) (by simp [results, Tryz.results38, go_sem, c1]) rfl ?_
        refine ⟨g, cap2, by rw [show (fillF xs a ls).length = xs.length from hl'], ?_, hB.setCell (p := ⟨ob, 0, none⟩) HOB.out _⟩
        rw [show (fillF xs a ls).length = xs.length from hl']
        exact own_far ho (p := ⟨ob, 0, none⟩) hne1 _
end Go.Proofs.YtemahcjglmhefaaGreatDoor
namespace Go.Proofs.YtemahcjglmhefaaGreatDoor
set_option linter.unusedVariables false
set_option linter.unusedSimpArgs false
open Go.RowKit
attribute [local irreducible] World.setCell
theorem wrap64_small (x : Int) (h0 : 0 ≤ x) (h1 : x < 1000000) : wrap64 x = x := by unfold wrap64; omega
theorem ram_ix (j n : Nat) (hj : j ≤ 4096) (hn : 0 < n) : (wrap64 (wrap64 ((j : Int) * 7) + wrap64 ((j : Int) / 97))).tmod (n : Int) = ((j : Int) * 7 + (j : Int) / 97) % (n : Int) := by
  rw [wrap64_small ((j : Int) * 7) (by omega) (by omega), wrap64_small ((j : Int) / 97) (by omega) (by omega), wrap64_small _ (by omega) (by omega)]
  exact Int.tmod_eq_emod_of_nonneg (by omega)
/-- A memory's value, of the call's own. -/
def RamCur (w0 : World) (A : Option Addr) (n cap : Nat) (xs : List Int) (cb : Nat) (w : World) (v : Value) (ys : List Int) (w' : World) : Prop :=
  w'.ownsRow w.heap.size 5 1 v ys.length (nums .u8 ys) ∧ CurOut w0 A n cap xs cb w w'
theorem own_rd {w : World} {base n : Nat} {e : TypeId} {k : IntKind} {A : Option Addr} {c : Nat} {xs : List Int} (h : w.ownsRow base e 1 (.slice A n c) n (nums k xs)) : Rds w k A n xs := by
  obtain ⟨A', c', he, hr⟩ := own_rds h
  injection he with h1
  subst h1
  exact hr
set_option maxHeartbeats 1000000 in
set_option maxRecDepth 100000 in
theorem l05Ram_c (w0 : World) (A : Option Addr) (n cap : Nat) (xs : List Int) (cb : Nat) (w : World) (hc : Cur w0 A n cap xs cb w) :
    Calls Tryz.prog 36 #[.pointer (some ⟨cb, 0, none⟩)] w fun e w' => ∃ v ys, okSize ys.length ∧ Byt ys ∧ e = .returned (.agg #[v]) ∧ RamCur w0 A n cap xs cb w v ys w' := by
  have HC := Lib.hid hc
  clear hc
  go_enter Tryz.func36, Tryz.ntmps36
  go_wp2_with fail
  have hlt := HC.out.lt
  have hst : CurOut w0 A n cap xs cb w (w.alloc (.cells #[.slice none 0 0] 30)) := CurOut.of HC.out (Dn.al w _)
  have hp := pick_new w0 A n cap xs cb _ hst.1 [256, 512, 1024, 4096] (by decide) (by decide) 3
  rw [show (w.alloc (.cells #[.slice none 0 0] 30)).heap.size = w.heap.size + 1 by simp] at hp
  refine hp.mono ?_
  rintro e w1 ⟨x, hx, rfl, hc1⟩
  obtain ⟨m, rfl, hm⟩ : ∃ m : Nat, x = (m : Int) ∧ okSize m := by
    simp at hx
    refine ⟨x.toNat, by omega, by unfold okSize; omega⟩
  have k1 : Bk w1 w.heap.size 30 #[.slice none 0 0] := (Bk.new w _ _).grown hc1.2 (by intro e; injection e; omega)
  have hO1 := hst.trans hc1
  clear hx hc1 hst hp
  have HM := Lib.hid hm
  have HO1 := Lib.hid hO1
  clear hm hO1
  go_wp2_with fail
  refine (sNewRam_c m HM.out _).mono ?_
  rintro e w2 ⟨g, cp, rfl, hown, hb2⟩
  simp only [List.length_replicate] at hown ⊢
  have K2 := Lib.hid (k1.later hb2)
  have HO2 := Lib.hid (HO1.out.then_ hb2)
  have HW2 := Lib.hid (own_more hown HO1.out.size)
  clear k1 hb2 hown HO1
  go_wp2_with fail
  have hcur := HO2.out.1.later (Dn.al w2 (.cells #[.slice (some ⟨g, 0, none⟩) m cp] 30))
  refine (l04Bytes_c w0 A n cap xs cb _ hcur 60 (by omega) (by omega)).mono ?_
  rintro e w3 ⟨v, ls, hl, hby, rfl, hown3, hc3⟩
  obtain ⟨lA, lc, rfl⟩ := own_shape hown3
  have kr : Bk w3 w2.heap.size 30 #[.slice (some ⟨g, 0, none⟩) m cp] := (Bk.new w2 _ _).grown hc3.2 (by have := HO2.out.1.lt; intro e; injection e; omega)
  have hO3 : CurOut w0 A n cap xs cb w w3 := (HO2.out.then_ (Dn.al w2 _)).trans hc3
  have k0 : Bk w3 w.heap.size 30 #[.slice none 0 0] := (K2.out.al _).grown hc3.2 (by intro e; injection e; omega)
  have hlt2 := K2.out.lt
  have hwg : w3.ownsRow w.heap.size 5 1 (.slice (some ⟨g, 0, none⟩) m cp) m (nums .u8 (List.replicate m 0)) :=
    ((HW2.out.alloc _).kept hc3.2 (.inr (by have := own_base HW2.out g rfl; intro e; have e' : g = cb := (by simpa [Value.ownBlock] using e); omega)))
  have hg := HW2.out.lt g rfl
  have hwl : w3.ownsRow (w2.heap.size + 1) 5 1 (.slice lA ls.length lc) ls.length (nums .u8 ls) := by
    rw [show (w2.alloc (.cells #[.slice (some ⟨g, 0, none⟩) m cp] 30)).heap.size = w2.heap.size + 1 by simp] at hown3
    exact hown3
  have hzero : Byt (List.replicate m 0) := by intro x hx; rw [List.mem_replicate] at hx; omega
  have hst : ∃ ys : List Int, ys.length = m ∧ Byt ys ∧ Bk w3 w2.heap.size 30 #[.slice (some ⟨g, 0, none⟩) m cp] ∧ Bk w3 w.heap.size 30 #[.slice none 0 0] ∧ w3.ownsRow w.heap.size 5 1 (.slice (some ⟨g, 0, none⟩) m cp) m (nums .u8 ys) ∧ w3.ownsRow (w2.heap.size + 1) 5 1 (.slice lA ls.length lc) ls.length (nums .u8 ls) ∧ CurOut w0 A n cap xs cb w w3 :=
    ⟨_, by simp, hzero, kr, k0, hwg, hwl, hO3⟩
  clear hcur hc3 hown3 kr hO3 k0 hwg hwl hzero HO2 HW2 K2
  go_wp2_with fail
  generalize w2.heap.size = rb at *
  generalize hob : w.heap.size = ob at *
  go_loopw [5] (fun i wr => ∃ j : Nat, j ≤ m ∧ i = .int .i64 j ∧ ∃ ys : List Int, ys.length = m ∧ Byt ys ∧ Bk wr rb 30 #[.slice (some ⟨g, 0, none⟩) m cp] ∧ Bk wr ob 30 #[.slice none 0 0] ∧ wr.ownsRow ob 5 1 (.slice (some ⟨g, 0, none⟩) m cp) m (nums .u8 ys) ∧ wr.ownsRow (rb + 1) 5 1 (.slice lA ls.length lc) ls.length (nums .u8 ls) ∧ CurOut w0 A n cap xs cb w wr) (fun i _ => m - (intOf i).toNat)
  case atStart =>
    obtain ⟨ys, h⟩ := hst
    exact ⟨0, Nat.zero_le _, rfl, ys, h⟩
  case round =>
    obtain ⟨j, hj, rfl, ys, hyl, hyb, kr, k0, hwg, hwl, hO⟩ := hrel
    clear hst
    by_cases hjm : j < m
    · obtain ⟨lg, lcp, e, _⟩ := hwl.form hl.1
      cases e
      have hq : (j * 7 + j / 97) % ls.length < ls.length := Nat.mod_lt _ hl.1
      have hlc : wr.cell? ⟨lg, (j * 7 + j / 97) % ls.length, none⟩ = some (.int .u8 (ls.getD ((j * 7 + j / 97) % ls.length) 0)) := by
        rw [hwl.cellAt _ (by omega)]
        simp [nums, List.getElem?_eq_getElem hq, List.getD_eq_getElem?_getD]
      have hx := hby.rd ((j * 7 + j / 97) % ls.length : Nat)
      simp only [rd, Int.toNat_natCast] at hx
      have hgc : wr.cell? ⟨g, j, none⟩ = some (.int .u8 (ys.getD j 0)) := by
        rw [hwg.cellAt _ (by omega)]
        have hq : j < ys.length := by omega
        simp [nums, List.getElem?_eq_getElem hq, List.getD_eq_getElem?_getD]
      have hgf := hwg.frozenAt j
      have hq0 : 0 ≤ ((j : Int) * 7 + (j : Int) / 97) % (ls.length : Int) := Int.emod_nonneg _ (by omega)
      have hq1 : ((j : Int) * 7 + (j : Int) / 97) % (ls.length : Int) < (ls.length : Int) := Int.emod_lt_of_pos _ (by omega)
      have hlb := (hwl.lt lg rfl).1
      have hm4 : m ≤ 4096 := by have := HM.out; unfold okSize at this; omega
      have hte := ram_ix j ls.length (by omega) hl.1
      have hne0 : ls ≠ [] := by intro e; rw [e] at hl; simp at hl
      have cr := kr.cell
      have fr := kr.frozen
      generalize ls.getD ((j * 7 + j / 97) % ls.length) 0 = x at *
      generalize ys.getD j 0 = x0 at *
      have hst := hwg.stored j (.int .u8 x)
      have hng : g ≠ rb := by omega
      have hns : g ≠ ob := fun e => own_apart hwg k0 (by decide) (by simp [Value.ownBlock, e])
      have KR := Lib.hid (kr.far (p := ⟨g, j, none⟩) (fun e => hng e.symm) (.int .u8 x))
      have K0 := Lib.hid (k0.far (p := ⟨g, j, none⟩) (fun e => hns e.symm) (.int .u8 x))
      have HL := Lib.hid (own_far hwl (p := ⟨g, j, none⟩) (by simp [Value.ownBlock]; omega) (.int .u8 x))
      have HG := Lib.hid hst.1
      have HO := Lib.hid (hO.put HC.out (g := g) (by omega) j (.int .u8 x))
      have HY := Lib.hid hyl
      clear kr k0 hwl hwg hst hO hyl
      go_wp2
      go_region
      go_wp2
      go_roundw
      case rel => exact ⟨j + 1, by omega, by go_num, ys.set j x, by have := HY.out; simpa using this, hyb.set j hx, KR.out.drew, K0.out.drew, by have := HG.out; simp only [nums, List.map_set] at this ⊢; exact own_later this (Dn.drew _), own_later HL.out (Dn.drew _), HO.out.then_ (Dn.drew _)⟩
      case measure => simp [intOf]; omega
    · obtain rfl : j = m := by omega
      subst hyl
      have hcell := kr.cell 0
      have hne0 := own_apart hwg k0 (by decide)
      have hgb := own_base hwg g rfl
      have HO := Lib.hid hO
      have HG := Lib.hid (own_later (by rw [hob]; exact hwg : wr.ownsRow w.heap.size 5 1 _ _ _) (Dn.drew wr))
      have HL := Lib.hid (own_later (own_more hwl (b2 := w.heap.size) (by omega)) (Dn.drew wr))
      have hsz := hO.size
      have hlt3 := hO.1.lt
      clear hO hwg hwl
      go_wp2
      go_region_held3 (fun w' => w'.cell? ⟨rb, 0, none⟩ = some (.slice (some ⟨g, 0, none⟩) ys.length cp)) (first | exact hcell | exact k4.cell 0 | exact k5.cell 0 | (rw [World.cell?_setCell_other _ _ _ _ (fun e => absurd (congrArg Addr.block e) (by simp; omega))]; exact k5.cell 0)) (first | (go_at_call 40; refine (l01Below_c w0 A n cap xs cb _ (HO.out.1.later (Dn.drew wr)) 4096 (by omega) (by omega)).mono ?_; rintro e w4 ⟨a, ha, rfl, hc4⟩; have k4 := kr.drew.grown hc4.2 (by intro e; injection e; omega); have HK4 := Lib.hid (k0.drew.grown hc4.2 (by intro e; injection e; omega)); have HO4 := Lib.hid (CurOut.trans (HO.out.then_ (Dn.drew wr)) hc4)) | (go_at_call 38; refine (sFill_c ⟨g, 0, none⟩ cp ys HM.out (IntKind.u16.wrap a) (by rw [wrap_u16]; exact (u16_ok a).1) (by rw [wrap_u16]; exact (u16_ok a).2) lA lc ls (by omega) _ (own_rd (own_curOut HC.out HG.out hc4 hsz)) (own_rd (own_curOut HC.out HL.out hc4 hsz))).mono ?_; rintro e w5 ⟨g2, cap2, rfl, hown5, hb5⟩; have k5 := k4.later hb5; have q0 := HK4.out.later hb5; have qc := q0.cell; have qf := q0.frozen))
      have q9 := q0.put 0 (.slice (some ⟨g2, 0, none⟩) (fillF ys (IntKind.u16.wrap a) ls).length cap2)
      have c9 := q9.cell
      have hlen : (fillF ys (IntKind.u16.wrap a) ls).length = ys.length := fillN_length _ _ _ _
      have hbyt : Byt (fillF ys (IntKind.u16.wrap a) ls) := fillN_byt hyb _ hby _
      have H1 := Lib.hid (own_far hown5 (p := ⟨ob, 0, none⟩) (own_apart hown5 q0 (by decide)) (.slice (some ⟨g2, 0, none⟩) (fillF ys (IntKind.u16.wrap a) ls).length cap2))
      have H2 := Lib.hid (CurOut.put (HO4.out.then_ hb5) HC.out (g := ob) (by omega) 0 (.slice (some ⟨g2, 0, none⟩) (fillF ys (IntKind.u16.wrap a) ls).length cap2))
      clear hown5
      have HE := Lib.hid hlen
      clear hlen
      generalize fillF ys (IntKind.u16.wrap a) ls = zs at *
      go_wp2
      refine bodyPost_ret (v := .agg #[.slice (some ⟨g2, 0, none⟩) zs.length cap2]) (by simp [results, Tryz.results36, go_sem, c9]) rfl ⟨_, zs, by rw [HE.out]; exact HM.out, hbyt, rfl, own_more H1.out HO4.out.size, H2.out⟩
end Go.Proofs.YtemahcjglmhefaaGreatDoor
namespace Go.Proofs.YtemahcjglmhefaaGreatDoor
set_option linter.unusedVariables false
set_option linter.unusedSimpArgs false
open Go.RowKit
attribute [local irreducible] World.setCell
set_option maxHeartbeats 1000000 in
theorem Poke_c (ad : Addr) (cap : Nat) (xs : List Int) (hs : okSize xs.length) (a : Int) (h0 : 0 ≤ a) (h1 : a < 65536) (b : Int) (w : World) (hr : Rds w .u8 (some ad) xs.length xs) :
    Calls Tryz.prog 10 #[.agg #[.slice (some ad) xs.length cap], .int .u16 a, .int .u8 b] w (RamOut w (fillF xs a [b])) := by
  have HR := Lib.hid hr
  clear hr
  go_enter Tryz.func10, Tryz.ntmps10
  go_wp2_with fail
  have hB : Below w.heap.size w ((w.alloc (.cells #[.slice (some ad) xs.length cap] 30)).alloc (.cells #[.slice none 0 0] 30)) := Dn.trans (Dn.al w _) (Dn.al _ _)
  have hsz : ((w.alloc (.cells #[.slice (some ad) xs.length cap] 30)).alloc (.cells #[.slice none 0 0] 30)).heap.size = w.heap.size + 1 + 1 := by simp
  have k1 := Bk.new1 w (.cells #[.slice (some ad) xs.length cap] 30) 30 #[.slice none 0 0]
  generalize (w.alloc (.cells #[.slice (some ad) xs.length cap] 30)).alloc (.cells #[.slice none 0 0] 30) = w1 at *
  rw [← hsz]
  refine (Fill_c ad cap xs hs a h0 h1 (some ⟨w1.heap.size, 0, none⟩) 1 [b] (by simp) _ (HR.out.later (Dn.trans hB (Dn.al _ _))) (rds_new w1 [b] (by simp) .u8 5)).mono ?_
  rintro e w2 ⟨g, cap2, rfl, hown, hb2⟩
  have k2 := (k1.al (.cells #[.int .u8 b] 5)).later hb2
  have HB := Lib.hid ((Dn.trans hB (Dn.al w1 (.cells #[.int .u8 b] 5))).trans (hb2.mono (Nat.le_trans hB.size (Dn.al w1 _).size)))
  have hne := own_apart hown k2 (by decide)
  have HW := Lib.hid (own_more hown (b2 := w.heap.size) (Nat.le_trans hB.size (Dn.al w1 _).size))
  have c2 := k2.cell 0
  have f2 := k2.frozen 0
  clear hown hb2 k1 k2 hB hsz hs
  generalize fillF xs a [b] = zs at *
  go_wp2
  refine bodyPost_ret (v := .agg #[.slice (some ⟨g, 0, none⟩) zs.length cap2]) (by simp [results, Tryz.results10, go_sem, c2]) rfl ⟨g, cap2, rfl, own_far (p := ⟨w.heap.size + 1, 0, none⟩) HW.out hne _, HB.out.setCell (p := ⟨w.heap.size + 1, 0, none⟩) (Nat.le_succ _) _⟩
end Go.Proofs.YtemahcjglmhefaaGreatDoor
