/- Bytes put into a memory. No condition. -/
import Derived.Test.YtemahcjglmhefaaDoorClone
import Derived.Test.YtemahcjglmhefaaDoorPure5
import Derived.Deep.RegionHeld3
namespace Go.Proofs.YtemahcjglmhefaaDoor
open Go.RowKit
attribute [local irreducible] World.setCell

def fillN (xs : List Int) (a : Int) (ls : List Int) : Nat → List Int
  | 0 => xs
  | j + 1 => (fillN xs a ls j).set (u16 (a + j) % (xs.length : Int)).toNat (ls.getD j 0)
@[simp] theorem fillN_length (xs : List Int) (a : Int) (ls : List Int) (j : Nat) : (fillN xs a ls j).length = xs.length := by
  induction j with
  | zero => rfl
  | succ j ih => simp [fillN, ih]
theorem fillN_byt {xs : List Int} (h : Byt xs) (a : Int) {ls : List Int} (hl : Byt ls) (j : Nat) : Byt (fillN xs a ls j) := by
  induction j with
  | zero => exact h
  | succ j ih =>
    intro x hx
    rcases List.mem_or_eq_of_mem_set hx with h1 | h1
    · exact ih x h1
    · have := hl.rd j
      simp only [rd, Int.toNat_natCast] at this
      rw [h1]
      exact this
def fillF (xs : List Int) (a : Int) (ls : List Int) : List Int := fillN xs a ls ls.length
/-- A memory of the call's own. -/
def RamOut (w : World) (xs : List Int) (e : Ending) (w' : World) : Prop := ∃ g cap, e = .returned (.agg #[.slice (some ⟨g, 0, none⟩) xs.length cap]) ∧
  w'.ownsRow w.heap.size 5 1 (.slice (some ⟨g, 0, none⟩) xs.length cap) xs.length (nums .u8 xs) ∧ Below w.heap.size w w'
set_option maxHeartbeats 1000000 in
theorem Fill_c (ad : Addr) (cap : Nat) (xs : List Int) (hs : okSize xs.length) (a : Int) (h0 : 0 ≤ a) (h1 : a < 65536) (la : Option Addr) (lc : Nat) (ls : List Int) (hl : ls.length ≤ 1024) (w : World) (hr : Rds w .u8 (some ad) xs.length xs) (hls : Rds w .u8 la ls.length ls) :
    Calls Tryd.prog 9 #[.agg #[.slice (some ad) xs.length cap], .int .u16 a, .slice la ls.length lc] w (RamOut w (fillF xs a ls)) := by
  have HS := Lib.hid ((okSizeB_iff xs.length).2 hs)
  have hn : 0 < xs.length ∧ xs.length ≤ 4096 := by unfold okSize at hs; omega
  have HR := Lib.hid hr
  have HL := Lib.hid hls
  have hlb : decide ((1024 : Int) < (ls.length : Int)) = false := by simp; omega
  clear hr hls
  go_enter Tryd.func9, Tryd.ntmps9
  go_wp2_with fail
  refine (RamOk_c _ _ _ (by omega) _).mono ?_
  rintro e w1 ⟨rfl, hb1⟩
  rw [HS.out]
  have hB1 : Below w.heap.size w w1 := Dn.trans (Dn.al w _) (Dn.trans (Dn.al _ _) hb1)
  have k0 := ((Bk.new w 30 #[.slice (some ad) xs.length cap]).al (.cells #[.slice none 0 0] 30)).later hb1
  have k1 := (Bk.new1 w (.cells #[.slice (some ad) xs.length cap] 30) 30 #[.slice none 0 0]).later hb1
  have c0 := k0.cell 0
  clear hb1
  go_wp2_with fail
  refine (cloned_c ad xs.length cap xs (by omega) _ (HR.out.later hB1)).mono ?_
  rintro e w2 ⟨g, cap2, rfl, hown, hb2⟩
  have k1' := (k1.later hb2).al (.cells #[.slice (some ⟨g, 0, none⟩) xs.length cap2] 30)
  have k2 := Bk.new w2 30 #[.slice (some ⟨g, 0, none⟩) xs.length cap2]
  have hown2 := (own_more hown (b2 := w.heap.size) hB1.size).alloc (.cells #[.slice (some ⟨g, 0, none⟩) xs.length cap2] 30)
  have hB2 : Below w.heap.size w (w2.alloc (.cells #[.slice (some ⟨g, 0, none⟩) xs.length cap2] 30)) := Dn.trans hB1 (Dn.trans hb2 (Dn.al _ _))
  have hlt2 : w.heap.size + 1 < w2.heap.size := Nat.lt_of_lt_of_le k1.lt hb2.size
  have hg : w.heap.size ≤ g := (hown2.lt g rfl).1
  clear hown hb2 c0 k0 k1
  go_wp2_with fail
  generalize w2.alloc (.cells #[.slice (some ⟨g, 0, none⟩) xs.length cap2] 30) = w3 at *
  generalize w2.heap.size = ob at *
  go_loopw [8, 9, 23] (fun _ _ i wr => ∃ j : Nat, j ≤ ls.length ∧ i = .int .i64 j ∧ Bk wr (w.heap.size + 1) 30 #[.slice none 0 0] ∧ Bk wr ob 30 #[.slice (some ⟨g, 0, none⟩) xs.length cap2] ∧ wr.ownsRow w.heap.size 5 1 (.slice (some ⟨g, 0, none⟩) xs.length cap2) xs.length (nums .u8 (fillN xs a ls j)) ∧ Below w.heap.size w wr) (fun _ _ i _ => ls.length - (intOf i).toNat)
  case atStart => exact ⟨0, Nat.zero_le _, rfl, k1', k2, hown2, hB2⟩
  case round =>
    obtain ⟨j, hj, rfl, kr, ko, ho, hB⟩ := hrel
    clear k1' k2 hown2 hB2
    by_cases hlt : j < ls.length
    · have HB := Lib.hid hB
      have hlr := HL.out.later hB
      obtain ⟨ad2, rfl, hcell⟩ := hlr.at_ j (by omega) (by omega)
      have o1 := u16_ok (a + j)
      have p1 : IntKind.u16.wrap (a + IntKind.u16.wrap j) = u16 (a + j) := by rw [wrap_u16, wrap_u16]; unfold u16; omega
      have p2 : IntKind.u16.wrap (a + j) = u16 (a + j) := wrap_u16 _
      have hm0 : 0 ≤ u16 (a + j) % (xs.length : Int) := Int.emod_nonneg _ (by omega)
      have hm1 : u16 (a + j) % (xs.length : Int) < (xs.length : Int) := Int.emod_lt_of_pos _ (by omega)
      have hst := ho.stored (u16 (a + j) % (xs.length : Int)).toNat (.int .u8 (ls.getD j 0))
      have hne : g ≠ ob := fun e => own_apart ho ko (by decide) (by simp [Value.ownBlock, e])
      have hne1 : g ≠ w.heap.size + 1 := fun e => own_apart ho kr (by decide) (by simp [Value.ownBlock, e])
      have hgl := (ho.lt g rfl).2
      have hgc : wr.cell? ⟨g, (u16 (a + j) % (xs.length : Int)).toNat, none⟩ = some (.int .u8 ((fillN xs a ls j).getD (u16 (a + j) % (xs.length : Int)).toNat 0)) := by
        rw [ho.cellAt _ (by omega)]
        have hq : (u16 (a + j) % (xs.length : Int)).toNat < (fillN xs a ls j).length := by simp; omega
        simp [nums, List.getElem?_eq_getElem hq, List.getD_eq_getElem?_getD]
      have hgf := ho.frozenAt (u16 (a + j) % (xs.length : Int)).toNat
      have c0 := ko.cell 0
      simp only [rd, Int.toNat_natCast] at hcell
      have lt1 := ko.lt
      have hnums : nums .u8 (fillN xs a ls (j + 1)) = (nums .u8 (fillN xs a ls j)).set (u16 (a + j) % (xs.length : Int)).toNat (.int .u8 (ls.getD j 0)) := by
        simp [nums, fillN, List.map_set]
      have HN := Lib.hid hnums
      generalize ls.getD j 0 = v at *
      generalize (fillN xs a ls j).getD (u16 (a + j) % (xs.length : Int)).toNat 0 = v0 at *
      have HO := Lib.hid ho
      clear hB hlr ho hnums hst
      go_wp2_with fail
      go_region_held3 (fun w' => w'.cell? ⟨ob, 0, none⟩ = some (.slice (some ⟨g, 0, none⟩) xs.length cap2)) (first | exact c0 | exact (hb9.cell lt1).trans c0 | (rw [World.cell?_setCell_other _ _ _ _ (fun e => hne (congrArg Addr.block e))]; exact (hb9.cell lt1).trans c0)) (first | (go_at_call 23; refine (at_c _ _ _ _ o1.1 o1.2 hn.1 (by omega) _).mono ?_; rintro e w9 ⟨rfl, hb9⟩; have q1 := (hb9.cell (p := ⟨g, (u16 (a + j) % (xs.length : Int)).toNat, none⟩) hgl).trans hgc; have q2 := (hb9.frozen (p := ⟨g, (u16 (a + j) % (xs.length : Int)).toNat, none⟩) hgl).trans hgf))
      rename_i hHeld
      clear hHeld
      have k9 := kr.drew.later hb9
      have ko9 := ko.drew.later hb9
      have ho9 := own_later HO.out (w' := w9) (Dn.trans (Dn.drew wr) hb9)
      have hst := ho9.stored (u16 (a + j) % (xs.length : Int)).toNat (.int .u8 v)
      have HB9 := Lib.hid (((Bl.then_ HB.out HB.out.size (Dn.trans (Dn.drew wr) hb9))).setCell (p := ⟨g, (u16 (a + j) % (xs.length : Int)).toNat, none⟩) hg (.int .u8 v))
      have K9 := Lib.hid (k9.far (p := ⟨g, (u16 (a + j) % (xs.length : Int)).toNat, none⟩) (fun e => hne1 e.symm) (.int .u8 v))
      have KO9 := Lib.hid (ko9.far (p := ⟨g, (u16 (a + j) % (xs.length : Int)).toNat, none⟩) (fun e => hne e.symm) (.int .u8 v))
      have HST := Lib.hid hst.1
      clear k9 ko9 ho9 hst kr ko c0 q1 q2 hgc hgf
      go_wp2
      go_roundw
      case rel => exact ⟨j + 1, by omega, by go_num, K9.out, KO9.out, by rw [HN.out]; exact HST.out, HB9.out⟩
      case measure => simp [intOf]; omega
    · obtain rfl : j = ls.length := by omega
      have c0 := ko.cell 0
      have c1 := kr.cell 0
      have f1 := kr.frozen 0
      have hne1 := own_apart ho kr (by decide)
      have hl' := fillN_length xs a ls ls.length
      clear kr ko HL
      go_wp2
      refine bodyPost_ret (v := .agg #[.slice (some ⟨g, 0, none⟩) xs.length cap2]) (by simp [results, Tryd.results9, go_sem, c1]) rfl ?_
      refine ⟨g, cap2, by rw [show (fillF xs a ls).length = xs.length from hl'], ?_, hB.setCell (p := ⟨w.heap.size + 1, 0, none⟩) (Nat.le_succ _) _⟩
      rw [show (fillF xs a ls).length = xs.length from hl']
      exact own_far ho (p := ⟨w.heap.size + 1, 0, none⟩) hne1 _
end Go.Proofs.YtemahcjglmhefaaDoor
