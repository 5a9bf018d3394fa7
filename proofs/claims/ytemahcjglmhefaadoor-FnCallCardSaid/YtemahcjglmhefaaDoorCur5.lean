/- Draws of memories. No condition. -/
import Derived.Test.YtemahcjglmhefaaDoorSRam
import Derived.BigRegion
import Derived.StillTailTactics
namespace Go.Proofs.YtemahcjglmhefaaDoor
open Go.RowKit
attribute [local irreducible] World.setCell
theorem wrap64_small (x : Int) (h0 : 0 ≤ x) (h1 : x < 1000000) : wrap64 x = x := by unfold wrap64; omega
theorem ram_ix (j n : Nat) (hj : j ≤ 4096) (hn : 0 < n) : (wrap64 (wrap64 ((j : Int) * 7) + wrap64 ((j : Int) / 97))).tmod (n : Int) = ((j : Int) * 7 + (j : Int) / 97) % (n : Int) := by
  rw [wrap64_small ((j : Int) * 7) (by omega) (by omega), wrap64_small ((j : Int) / 97) (by omega) (by omega), wrap64_small _ (by omega) (by omega)]
  exact Int.tmod_eq_emod_of_nonneg (by omega)
/-- A memory's value, of the call's own. -/
def RamCur (w0 : World) (A : Option Addr) (n cap : Nat) (xs : List Int) (cb : Nat) (w : World) (v : Value) (ys : List Int) (w' : World) : Prop :=
  w'.ownsRow w.heap.size 5 1 v ys.length (nums .u8 ys) ∧ CurOut w0 A n cap xs cb w w'
theorem own_rd {w : World} {base n : Nat} {e : TypeId} {k : IntKind} {A : Option Addr} {c : Nat} {xs : List Int} (h : w.ownsRow base e 1 (.slice A n c) n (nums k xs)) : Rds w k A n xs := by
  obtain ⟨A', c', he, hr⟩ := own_rds h
  injection he with h1
  subst h1
  exact hr
set_option maxHeartbeats 1000000 in
set_option maxRecDepth 100000 in
theorem l05Ram_c (w0 : World) (A : Option Addr) (n cap : Nat) (xs : List Int) (cb : Nat) (w : World) (hc : Cur w0 A n cap xs cb w) :
    Calls Tryd.prog 30 #[.pointer (some ⟨cb, 0, none⟩)] w fun e w' => ∃ v ys, okSize ys.length ∧ Byt ys ∧ e = .returned (.agg #[v]) ∧ RamCur w0 A n cap xs cb w v ys w' := by
  have HC := Lib.hid hc
  clear hc
  go_enter Tryd.func30, Tryd.ntmps30
  go_wp2_with fail
  have hlt := HC.out.lt
  have hst : CurOut w0 A n cap xs cb w (w.alloc (.cells #[.slice none 0 0] 30)) := CurOut.of HC.out (Dn.al w _)
  have hp := pick_new w0 A n cap xs cb _ hst.1 [256, 512, 1024, 4096] (by decide) (by decide) 3
  rw [show (w.alloc (.cells #[.slice none 0 0] 30)).heap.size = w.heap.size + 1 by simp] at hp
  refine hp.mono ?_
  rintro e w1 ⟨x, hx, rfl, hc1⟩
  obtain ⟨m, rfl, hm⟩ : ∃ m : Nat, x = (m : Int) ∧ okSize m := by
    simp at hx
    refine ⟨x.toNat, by omega, by unfold okSize; omega⟩
  have k1 : Bk w1 w.heap.size 30 #[.slice none 0 0] := (Bk.new w _ _).grown hc1.2 (by intro e; injection e; omega)
  have hO1 := hst.trans hc1
  clear hx hc1 hst hp
  have HM := Lib.hid hm
  have HO1 := Lib.hid hO1
  clear hm hO1
  go_wp2_with fail
  refine (sNewRam_c m HM.out _).mono ?_
  rintro e w2 ⟨g, cp, rfl, hown, hb2⟩
  simp only [List.length_replicate] at hown ⊢
  have K2 := Lib.hid (k1.later hb2)
  have HO2 := Lib.hid (HO1.out.then_ hb2)
  have HW2 := Lib.hid (own_more hown HO1.out.size)
  clear k1 hb2 hown HO1
  go_wp2_with fail
  have hcur := HO2.out.1.later (Dn.al w2 (.cells #[.slice (some ⟨g, 0, none⟩) m cp] 30))
  refine (l04Bytes_c w0 A n cap xs cb _ hcur 60 (by omega) (by omega)).mono ?_
  rintro e w3 ⟨v, ls, hl, hby, rfl, hown3, hc3⟩
  obtain ⟨lA, lc, rfl⟩ := own_shape hown3
  have kr : Bk w3 w2.heap.size 30 #[.slice (some ⟨g, 0, none⟩) m cp] := (Bk.new w2 _ _).grown hc3.2 (by have := HO2.out.1.lt; intro e; injection e; omega)
  have hO3 : CurOut w0 A n cap xs cb w w3 := (HO2.out.then_ (Dn.al w2 _)).trans hc3
  have k0 : Bk w3 w.heap.size 30 #[.slice none 0 0] := (K2.out.al _).grown hc3.2 (by intro e; injection e; omega)
  have hlt2 := K2.out.lt
  have hwg : w3.ownsRow w.heap.size 5 1 (.slice (some ⟨g, 0, none⟩) m cp) m (nums .u8 (List.replicate m 0)) :=
    ((HW2.out.alloc _).kept hc3.2 (.inr (by have := own_base HW2.out g rfl; intro e; have e' : g = cb := (by simpa [Value.ownBlock] using e); omega)))
  have hg := HW2.out.lt g rfl
  have hwl : w3.ownsRow (w2.heap.size + 1) 5 1 (.slice lA ls.length lc) ls.length (nums .u8 ls) := by
    rw [show (w2.alloc (.cells #[.slice (some ⟨g, 0, none⟩) m cp] 30)).heap.size = w2.heap.size + 1 by simp] at hown3
    exact hown3
  have hzero : Byt (List.replicate m 0) := by intro x hx; rw [List.mem_replicate] at hx; omega
  have hst : ∃ ys : List Int, ys.length = m ∧ Byt ys ∧ Bk w3 w2.heap.size 30 #[.slice (some ⟨g, 0, none⟩) m cp] ∧ Bk w3 w.heap.size 30 #[.slice none 0 0] ∧ w3.ownsRow w.heap.size 5 1 (.slice (some ⟨g, 0, none⟩) m cp) m (nums .u8 ys) ∧ w3.ownsRow (w2.heap.size + 1) 5 1 (.slice lA ls.length lc) ls.length (nums .u8 ls) ∧ CurOut w0 A n cap xs cb w w3 :=
    ⟨_, by simp, hzero, kr, k0, hwg, hwl, hO3⟩
  clear hcur hc3 hown3 kr hO3 k0 hwg hwl hzero HO2 HW2 K2
  go_wp2_with fail
  generalize w2.heap.size = rb at *
  generalize hob : w.heap.size = ob at *
  go_loopw [5] (fun i wr => ∃ j : Nat, j ≤ m ∧ i = .int .i64 j ∧ ∃ ys : List Int, ys.length = m ∧ Byt ys ∧ Bk wr rb 30 #[.slice (some ⟨g, 0, none⟩) m cp] ∧ Bk wr ob 30 #[.slice none 0 0] ∧ wr.ownsRow ob 5 1 (.slice (some ⟨g, 0, none⟩) m cp) m (nums .u8 ys) ∧ wr.ownsRow (rb + 1) 5 1 (.slice lA ls.length lc) ls.length (nums .u8 ls) ∧ CurOut w0 A n cap xs cb w wr) (fun i _ => m - (intOf i).toNat)
  case atStart =>
    obtain ⟨ys, h⟩ := hst
    exact ⟨0, Nat.zero_le _, rfl, ys, h⟩
  case round =>
    obtain ⟨j, hj, rfl, ys, hyl, hyb, kr, k0, hwg, hwl, hO⟩ := hrel
    clear hst
    by_cases hjm : j < m
    · obtain ⟨lg, lcp, e, _⟩ := hwl.form hl.1
      cases e
      have hq : (j * 7 + j / 97) % ls.length < ls.length := Nat.mod_lt _ hl.1
      have hlc : wr.cell? ⟨lg, (j * 7 + j / 97) % ls.length, none⟩ = some (.int .u8 (ls.getD ((j * 7 + j / 97) % ls.length) 0)) := by
        rw [hwl.cellAt _ (by omega)]
        simp [nums, List.getElem?_eq_getElem hq, List.getD_eq_getElem?_getD]
      have hx := hby.rd ((j * 7 + j / 97) % ls.length : Nat)
      simp only [rd, Int.toNat_natCast] at hx
      have hgc : wr.cell? ⟨g, j, none⟩ = some (.int .u8 (ys.getD j 0)) := by
        rw [hwg.cellAt _ (by omega)]
        have hq : j < ys.length := by omega
        simp [nums, List.getElem?_eq_getElem hq, List.getD_eq_getElem?_getD]
      have hgf := hwg.frozenAt j
      have hq0 : 0 ≤ ((j : Int) * 7 + (j : Int) / 97) % (ls.length : Int) := Int.emod_nonneg _ (by omega)
      have hq1 : ((j : Int) * 7 + (j : Int) / 97) % (ls.length : Int) < (ls.length : Int) := Int.emod_lt_of_pos _ (by omega)
      have hlb := (hwl.lt lg rfl).1
      have hm4 : m ≤ 4096 := by have := HM.out; unfold okSize at this; omega
      have hte := ram_ix j ls.length (by omega) hl.1
      have hne0 : ls ≠ [] := by intro e; rw [e] at hl; simp at hl
      have cr := kr.cell
      have fr := kr.frozen
      generalize ls.getD ((j * 7 + j / 97) % ls.length) 0 = x at *
      generalize ys.getD j 0 = x0 at *
      have hst := hwg.stored j (.int .u8 x)
      have hng : g ≠ rb := by omega
      have hns : g ≠ ob := fun e => own_apart hwg k0 (by decide) (by simp [Value.ownBlock, e])
      have KR := Lib.hid (kr.far (p := ⟨g, j, none⟩) (fun e => hng e.symm) (.int .u8 x))
      have K0 := Lib.hid (k0.far (p := ⟨g, j, none⟩) (fun e => hns e.symm) (.int .u8 x))
      have HL := Lib.hid (own_far hwl (p := ⟨g, j, none⟩) (by simp [Value.ownBlock]; omega) (.int .u8 x))
      have HG := Lib.hid hst.1
      have HO := Lib.hid (hO.put HC.out (g := g) (by omega) j (.int .u8 x))
      have HY := Lib.hid hyl
      clear kr k0 hwl hwg hst hO hyl
      go_wp2
      go_region
      go_wp2
      go_roundw
      case rel => exact ⟨j + 1, by omega, by go_num, ys.set j x, by have := HY.out; simpa using this, hyb.set j hx, KR.out.drew, K0.out.drew, by have := HG.out; simp only [nums, List.map_set] at this ⊢; exact own_later this (Dn.drew _), own_later HL.out (Dn.drew _), HO.out.then_ (Dn.drew _)⟩
      case measure => simp [intOf]; omega
    · obtain rfl : j = m := by omega
      subst hyl
      have hcell := kr.cell 0
      have hne0 := own_apart hwg k0 (by decide)
      have hgb := own_base hwg g rfl
      have HO := Lib.hid hO
      have HG := Lib.hid (own_later (by rw [hob]; exact hwg : wr.ownsRow w.heap.size 5 1 _ _ _) (Dn.drew wr))
      have HL := Lib.hid (own_later (own_more hwl (b2 := w.heap.size) (by omega)) (Dn.drew wr))
      have hsz := hO.size
      have hlt3 := hO.1.lt
      clear hO hwg hwl
      go_wp2
      go_region_held3 (fun w' => w'.cell? ⟨rb, 0, none⟩ = some (.slice (some ⟨g, 0, none⟩) ys.length cp)) (first | exact hcell | exact k4.cell 0 | exact k5.cell 0 | (rw [World.cell?_setCell_other _ _ _ _ (fun e => absurd (congrArg Addr.block e) (by simp; omega))]; exact k5.cell 0)) (first | (go_at_call 34; refine (l01Below_c w0 A n cap xs cb _ (HO.out.1.later (Dn.drew wr)) 4096 (by omega) (by omega)).mono ?_; rintro e w4 ⟨a, ha, rfl, hc4⟩; have k4 := kr.drew.grown hc4.2 (by intro e; injection e; omega); have HK4 := Lib.hid (k0.drew.grown hc4.2 (by intro e; injection e; omega)); have HO4 := Lib.hid (CurOut.trans (HO.out.then_ (Dn.drew wr)) hc4)) | (go_at_call 32; refine (sFill_c ⟨g, 0, none⟩ cp ys HM.out (IntKind.u16.wrap a) (by rw [wrap_u16]; exact (u16_ok a).1) (by rw [wrap_u16]; exact (u16_ok a).2) lA lc ls (by omega) _ (own_rd (own_curOut HC.out HG.out hc4 hsz)) (own_rd (own_curOut HC.out HL.out hc4 hsz))).mono ?_; rintro e w5 ⟨g2, cap2, rfl, hown5, hb5⟩; have k5 := k4.later hb5; have q0 := HK4.out.later hb5; have qc := q0.cell; have qf := q0.frozen))
      have q9 := q0.put 0 (.slice (some ⟨g2, 0, none⟩) (fillF ys (IntKind.u16.wrap a) ls).length cap2)
      have c9 := q9.cell
      have hlen : (fillF ys (IntKind.u16.wrap a) ls).length = ys.length := fillN_length _ _ _ _
      have hbyt : Byt (fillF ys (IntKind.u16.wrap a) ls) := fillN_byt hyb _ hby _
      have H1 := Lib.hid (own_far hown5 (p := ⟨ob, 0, none⟩) (own_apart hown5 q0 (by decide)) (.slice (some ⟨g2, 0, none⟩) (fillF ys (IntKind.u16.wrap a) ls).length cap2))
      have H2 := Lib.hid (CurOut.put (HO4.out.then_ hb5) HC.out (g := ob) (by omega) 0 (.slice (some ⟨g2, 0, none⟩) (fillF ys (IntKind.u16.wrap a) ls).length cap2))
      clear hown5
      have HE := Lib.hid hlen
      clear hlen
      generalize fillF ys (IntKind.u16.wrap a) ls = zs at *
      go_wp2
      refine bodyPost_ret (v := .agg #[.slice (some ⟨g2, 0, none⟩) zs.length cap2]) (by simp [results, Tryd.results30, go_sem, c9]) rfl ⟨_, zs, by rw [HE.out]; exact HM.out, hbyt, rfl, own_more H1.out HO4.out.size, H2.out⟩
end Go.Proofs.YtemahcjglmhefaaDoor
