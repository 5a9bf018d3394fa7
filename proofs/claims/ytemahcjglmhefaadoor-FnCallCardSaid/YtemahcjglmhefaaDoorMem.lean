/- The machine's reads and writes. No condition. -/
import Derived.Test.YtemahcjglmhefaaDoorLeaf2
import Derived.Test.YtemahcjglmhefaaDoorPure2
import Derived.Test.YtemahcjglmhefaaDoorMach
namespace Go.Proofs.YtemahcjglmhefaaDoor
open Go.RowKit
attribute [local irreducible] World.setCell

theorem infoCyc : (Tryd.prog.info? 93).map (fun i => (i.zero, i.size, i.bytes)) = some (some (.agg #[.int .u16 0, .int .u8 0, .bool false]), 3, 4) := by kernel_rfl
section
variable {B : Nat} {w0 w w' : World} {b g : Nat} {m : Ms}
/-- Behind an append to the cycles and a store of the new slice. -/
theorem St.log (h : St B w0 b g m w) {cv cv' : Value} (c : Cy) (hw : w.grownBy w' cv.ownBlock) (hc : w.cell? ⟨b, 12, none⟩ = some cv) (hcv : w.ownsRow B 93 3 cv m.cy.length (cyCells m.cy))
    (hn : w'.ownsRow B 93 3 cv' (m.cy.length + 1) (cyCells m.cy ++ [.int .u16 c.ad, .int .u8 c.da, .bool c.wr])) :
    St B w0 b g { m with cy := m.cy ++ [c] } (w'.setCell ⟨b, 12, none⟩ cv') := by
  obtain ⟨hB, hG, h1, h2, h3, hfr, h4, h5, h6, cap, cv0, h7, h8, h9⟩ := h
  have hcell := h7.cell 12
  rw [hc] at hcell
  simp at hcell
  subst hcell
  have hne : some b ≠ cv.ownBlock := own_apart h9 h7 (by decide)
  have k7 := h7.grown hw hne
  have k8 := h8.kept hw (own_apart2 h8 h9 (by decide))
  have hb2 : Below B w w' := grown_below hw h3 (fun k hk => own_base h9 k hk)
  refine ⟨hB, hG, h1, (h2.trans hb2).setCell h1 _, ?_, (hfr.trans ⟨hw.size, fun k t cs hk _ _ k3 => hk.grown hw (own_apart h9 hk (Ne.symm k3))⟩).trans (Fr.put (Or.inl rfl) _ _), h4, h5, h6, cap, cv', ?_, ?_, ?_⟩
  · rw [World.size_setCell]
    exact Nat.le_trans h3 hb2.size
  · have := k7.put 12 cv'
    simpa using this
  · exact own_far k8 (p := ⟨b, 12, none⟩) (own_apart k8 k7 (by decide)) _
  · have e : m.cy.length + 1 = (m.cy ++ [c]).length := by simp
    rw [← e, cyCells_append]
    exact own_far hn (p := ⟨b, 12, none⟩) (own_apart hn k7 (by decide)) _
end
theorem St.still {B : Nat} {w0 w w' : World} {b g : Nat} {m : Ms} (h : St B w0 b g m w) {cv : Value} {e : TypeId} {s n : Nat} {xs : List Value} (hw : w.grownBy w' cv.ownBlock) (hcv : w.ownsRow B e s cv n xs) (he : e ≠ 61) :
    (∀ i, w'.cell? ⟨b, i, none⟩ = w.cell? ⟨b, i, none⟩) ∧ (∀ i, w'.frozen? ⟨b, i, none⟩ = false) := by
  obtain ⟨cap, cv0, h7, h8, h9⟩ := h.mem
  have k7 := h7.grown hw (own_apart hcv h7 he)
  exact ⟨fun i => by rw [k7.cell, h7.cell], k7.frozen⟩
set_option maxHeartbeats 1000000 in
theorem read_c {B : Nat} {w0 w : World} {b g : Nat} {m : Ms} (h : St B w0 b g m w) (ad : Int) (h0 : 0 ≤ ad) (h1 : ad < 65536) (hl : m.cy.length < 1000000) :
    Calls Tryd.prog 38 #[.pointer (some ⟨b, 0, none⟩), .int .u16 ad] w fun e w' => e = .returned (.int .u8 (m.look ad)) ∧ St B w0 b g (m.read ad) w' := by
  obtain ⟨cap, cv, hc, hf, hram, hcy⟩ := h.open_
  obtain ⟨A, cp, eA, hrd⟩ := own_rds hram
  cases eA
  have hlt := h.lt
  go_enter Tryd.func38, Tryd.ntmps38
  go_wp2_with fail
  refine (Peek_c _ _ _ _ ad h0 h1 h.sok _ hrd).mono ?_
  rintro e w1 ⟨rfl, hb1⟩
  have h' := h.later hb1
  clear hc hf hram hcy hrd
  obtain ⟨cap2, cv, hc, hf, hram, hcy⟩ := h'.open_
  have hlt1 := h'.lt
  have htop := h'.top
  have hl2 : (m.cy.length + 1) * 4 ≤ 140737488355328 := by omega
  have hl3 : m.cy.length + 1 ≤ maxLen := by unfold maxLen; omega
  obtain ⟨i0, hi, hz0, hz1, hz2⟩ := info_parts infoCyc
  have H' := Lib.hid h'
  clear h h'
  go_wp2_with (at_builtin; refine wpList_append_own _ rfl (.tmp 16) (.tmp 20) 37 rfl B 93 i0 _ 3 4 Tryd.underlying37 hi hz0 hz1 hz2 rfl (by decide) cv m.cy.length (cyCells m.cy) rfl (hcy.alloc _) ⟨w1.heap.size, 0, none⟩ 1 1 [.int .u16 ad, .int .u8 (rd m.ram (ad % (m.ram.length : Int))), .bool false] rfl rfl ?c1 ?c2 hl3 hl2 (by simp; omega) ?c3)
  try case c1 => intro j u hj; match j, hj with | 0, hj => simp at hj; subst hj; simp [Addr.add] | 1, hj => simp at hj; subst hj; simp [Addr.add] | 2, hj => simp at hj; subst hj; simp [Addr.add]
  case c2 => first | (intro u hu; simp at hu; rcases hu with rfl | rfl | rfl <;> rfl) | exact ⟨rfl, rfl, rfl⟩
  case c3 =>
    intro v' w2 hown hgr _
    obtain ⟨A', c', rfl⟩ := own_shape hown
    clear hl2 hl3 hi hz0 hz1 hz2
    have hc12 : ∀ o, (w1.alloc o).cell? ⟨b, 12, none⟩ = some cv := fun o => by rw [World.cell?_alloc_lt w1 o _ hlt1, hc]; rfl
    have h1 := H'.out.later (Dn.al w1 (.cells #[.int .u16 ad, .int .u8 (rd m.ram (ad % (m.ram.length : Int))), .bool false] 93))
    have h2 := h1.log ⟨ad, rd m.ram (ad % (m.ram.length : Int)), false⟩ hgr (hc12 _) (hcy.alloc _) hown
    obtain ⟨k1, k2⟩ := h1.still hgr (hcy.alloc _) (by decide)
    have k3 : w2.cell? ⟨b, 12, none⟩ = some cv := by rw [k1]; exact hc12 _
    have k4 := k2 12
    have H2 := Lib.hid h2
    clear k1 k2 h1 hc hf hc12 h2 hgr hown
    go_wp2
    go_returns
    exact ⟨rfl, H2.out⟩
theorem St.ramAt {B : Nat} {w0 w : World} {b g : Nat} {m : Ms} (h : St B w0 b g m w) :
    (∀ j, j < m.ram.length → w.cell? ⟨g, j, none⟩ = some (.int .u8 (m.ram.getD j 0)) ∧ w.frozen? ⟨g, j, none⟩ = false) ∧
    ∀ (j : Nat) (v : Int), j < m.ram.length → 0 ≤ v ∧ v < 256 → St B w0 b g { m with ram := m.ram.set j v } (w.setCell ⟨g, j, none⟩ (.int .u8 v)) := by
  have hg := h.ltg
  obtain ⟨hB, hG, h1, h2, h3, hfr, h4, h5, h6, cap, cv, h7, h8, h9⟩ := h
  refine ⟨fun j hj => ⟨?_, h8.frozenAt j⟩, fun j v hj hv => ?_⟩
  · rw [h8.cellAt j (by omega)]
    simp [nums, List.getElem?_eq_getElem hj, List.getD_eq_getElem?_getD]
  · obtain ⟨k1, k2⟩ := h8.stored j (.int .u8 v)
    refine ⟨hB, hG, h1, h2.setCell hg.1 _, by rw [World.size_setCell]; exact h3, hfr.trans (Fr.put (Or.inr rfl) _ _), h4, by simpa using h5, h6.set j hv, cap, cv, ?_, ?_, own_far h9 (p := ⟨g, j, none⟩) (fun e => ?_) _⟩
    · rw [List.length_set]
      exact h7.far (p := ⟨g, j, none⟩) (fun e => hg.2.2 e.symm) _
    · have e : nums .u8 (m.ram.set j v) = (nums .u8 m.ram).set j (.int .u8 v) := by simp [nums, List.map_set]
      rw [e, List.length_set]
      exact k1
    · rcases own_apart2 h8 h9 (by decide) with k | k
      · simp [Value.ownBlock] at k
      · exact k (by simpa [Value.ownBlock] using e)
set_option maxHeartbeats 2000000 in
theorem write_c {B : Nat} {w0 w : World} {b g : Nat} {m : Ms} (h : St B w0 b g m w) (ad v : Int) (h0 : 0 ≤ ad) (h1 : ad < 65536) (hv : 0 ≤ v ∧ v < 256) (hl : m.cy.length < 1000000) :
    Calls Tryd.prog 66 #[.pointer (some ⟨b, 0, none⟩), .int .u16 ad, .int .u8 v] w fun e w' => e = .returned (.tuple #[]) ∧ St B w0 b g (m.write ad v) w' := by
  obtain ⟨hr, hput⟩ := h.ramAt
  obtain ⟨cap, cv, hc, _, _, _⟩ := h.open_
  have hlt := h.lt
  obtain ⟨_, hlg, hgb⟩ := h.ltg
  have hn : 0 < m.ram.length ∧ m.ram.length ≤ 4096 := by have := h.sok; unfold okSize at this; omega
  have i0 : 0 ≤ ad % (m.ram.length : Int) := Int.emod_nonneg _ (by omega)
  have i1 : ad % (m.ram.length : Int) < (m.ram.length : Int) := Int.emod_lt_of_pos _ (by omega)
  have hj : (ad % (m.ram.length : Int)).toNat < m.ram.length := by omega
  have hr' := hr _ hj
  have c11 := hc 11
  clear hr hput
  go_enter Tryd.func66, Tryd.ntmps66
  go_wp2_with fail
  go_region_held3 (fun w' => w'.cell? ⟨b, 11, none⟩ = some (.slice (some ⟨g, 0, none⟩) m.ram.length cap)) (first | exact c11 | exact (hb2.cell hlt).trans c11 | (rw [World.cell?_setCell_other _ _ _ _ (fun e => hgb (congrArg Addr.block e))]; exact (hb2.cell hlt).trans c11)) (first | (go_at_call 23; refine (at_c _ _ _ _ h0 h1 hn.1 (by omega) _).mono ?_; rintro e w2 ⟨rfl, hb2⟩; have q1 := (hb2.cell (p := ⟨g, (ad % (m.ram.length : Int)).toNat, none⟩) hlg).trans hr'.1; have q2 := (hb2.frozen (p := ⟨g, (ad % (m.ram.length : Int)).toNat, none⟩) hlg).trans hr'.2))
  have hs2 := h.later (Dn.trans (Dn.drew w) hb2)
  have h' := hs2.ramAt.2 _ v hj hv
  clear q1 q2 c11 hr' hc
  rename_i hHeld
  clear hHeld
  generalize w2.setCell ⟨g, (ad % (m.ram.length : Int)).toNat, none⟩ (.int .u8 v) = w1 at *
  obtain ⟨cap2, cv, hc, hf, hram, hcy⟩ := h'.open_
  have hlt1 := h'.lt
  have htop := h'.top
  have hl2 : (m.cy.length + 1) * 4 ≤ 140737488355328 := by omega
  have hl3 : m.cy.length + 1 ≤ maxLen := by unfold maxLen; omega
  obtain ⟨i0, hi, hz0, hz1, hz2⟩ := info_parts infoCyc
  have H' := Lib.hid h'
  have HW := Lib.hid (rfl : m.write ad v = { { m with ram := m.ram.set (ad % (m.ram.length : Int)).toNat v } with cy := m.cy ++ [⟨ad, v, true⟩] })
  clear h h' hs2 hb2
  go_wp2_with (at_builtin; refine wpList_append_own _ rfl (.tmp 23) (.tmp 27) 37 rfl B 93 i0 _ 3 4 Tryd.underlying37 hi hz0 hz1 hz2 rfl (by decide) cv m.cy.length (cyCells m.cy) rfl (hcy.alloc _) ⟨w1.heap.size, 0, none⟩ 1 1 [.int .u16 ad, .int .u8 v, .bool true] rfl rfl ?c1 ?c2 hl3 hl2 (by simp; omega) ?c3)
  try case c1 => intro j u hj; match j, hj with | 0, hj => simp at hj; subst hj; simp [Addr.add] | 1, hj => simp at hj; subst hj; simp [Addr.add] | 2, hj => simp at hj; subst hj; simp [Addr.add]
  case c2 => first | (intro u hu; simp at hu; rcases hu with rfl | rfl | rfl <;> rfl) | exact ⟨rfl, rfl, rfl⟩
  case c3 =>
    intro v' w2 hown hgr _
    obtain ⟨A', c', rfl⟩ := own_shape hown
    clear hl2 hl3 hi hz0 hz1 hz2
    have hc12 : ∀ o, (w1.alloc o).cell? ⟨b, 12, none⟩ = some cv := fun o => by rw [World.cell?_alloc_lt w1 o _ hlt1, hc]; rfl
    have h1 := H'.out.later (Dn.al w1 (.cells #[.int .u16 ad, .int .u8 v, .bool true] 93))
    have h2 := h1.log ⟨ad, v, true⟩ hgr (hc12 _) (hcy.alloc _) hown
    obtain ⟨k1, k2⟩ := h1.still hgr (hcy.alloc _) (by decide)
    have k3 : w2.cell? ⟨b, 12, none⟩ = some cv := by rw [k1]; exact hc12 _
    have k4 := k2 12
    have H2 := Lib.hid h2
    clear k1 k2 h1 hc hf hc12 h2 hgr hown
    go_wp2
    go_returns
    exact ⟨rfl, H2.out⟩
end Go.Proofs.YtemahcjglmhefaaDoor
