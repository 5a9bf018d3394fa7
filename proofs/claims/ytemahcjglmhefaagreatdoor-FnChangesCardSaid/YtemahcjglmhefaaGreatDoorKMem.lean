/- A copy of bytes; whether a byte is no operation. No condition. The machine's reads and writes. No condition. The machine's methods: two reads, bytes onto the stack. No condition. -/
import Derived.Test.YtemahcjglmhefaaGreatDoorKOp
import Derived.Test.YtemahcjglmhefaaGreatDoorKLeaf
import Derived.Test.YtemahcjglmhefaaGreatDoorKBase
import Derived.Handy
namespace Go.Proofs.YtemahcjglmhefaaGreatDoor
set_option linter.unusedVariables false
set_option linter.unusedSimpArgs false
open Go.RowKit

theorem infoU8 : (Tryz.prog.info? 5).map (fun i => (i.zero, i.size, i.bytes)) = some (some (.int .u8 0), 1, 1) := by kernel_rfl
theorem nums_get {k : IntKind} {xs : List Int} {j : Nat} {u : Value} (h : (nums k xs)[j]? = some u) : j < xs.length ∧ u = .int k (xs.getD j 0) := by
  have hj : j < xs.length := by have := (List.getElem?_eq_some_iff.1 h).1; simpa [nums] using this
  refine ⟨hj, ?_⟩
  simp only [nums, List.getElem?_map, List.getElem?_eq_getElem hj, Option.map_some, Option.some.injEq] at h
  rw [← h, List.getD_eq_getElem?_getD, List.getElem?_eq_getElem hj]
  rfl
theorem nums_one {k : IntKind} {xs : List Int} : ∀ u ∈ nums k xs, u.oneCell' = true := by
  intro u hu
  simp only [nums, List.mem_map] at hu
  obtain ⟨x, _, rfl⟩ := hu
  rfl
set_option maxHeartbeats 1000000 in
theorem Clone_c (ad : Addr) (n c : Nat) (xs : List Int) (hn : 0 < n ∧ n ≤ 1000000) (w : World) (hr : Rds w .u8 (some ad) n xs) :
    Calls Tryz.prog 43 #[.slice (some ad) n c] w fun e w' => ∃ g cap, e = .returned (.slice (some ⟨g, 0, none⟩) n cap) ∧ w'.ownsRow w.heap.size 5 1 (.slice (some ⟨g, 0, none⟩) n cap) n (nums .u8 xs) ∧ Below w.heap.size w w' := by
  obtain ⟨i0, hi, hz0, hz1, hz2⟩ := info_parts infoU8
  obtain ⟨hlen, _, hc⟩ := hr
  obtain ⟨ad', e, hc⟩ := hc hn.1
  cases e
  have hlt : ad.block < w.heap.size := by
    have := World.block_lt_of_cell? w _ (hc 0 hn.1)
    simpa [Addr.add] using this
  have hnews : ∀ o j u, (nums .u8 xs)[j]? = some u → (w.alloc o).cell? (ad.add j) = some u := by
    intro o j u hu
    obtain ⟨hj, rfl⟩ := nums_get hu
    have hb : (ad.add j).block < w.heap.size := by rw [show (ad.add j).block = ad.block by unfold Addr.add; split <;> rfl]; exact hlt
    rw [World.cell?_alloc_lt w _ _ hb]
    exact hc j (by omega)
  have b1 : 0 + n ≤ maxLen := by unfold maxLen; omega
  have b2 : (0 + n) * 1 ≤ 140737488355328 := by omega
  have hneq := @Lib.run_eql_slice_nil Tryz.prog
  clear hc
  go_enter Tryz.func43, Tryz.ntmps43
  go_wp2_with (at_builtin; refine wpList_append_own _ rfl (.tmp 5) (.tmp 6) 22 rfl w.heap.size 5 i0 _ 1 1 Tryz.underlying22 hi hz0 hz1 hz2 rfl (by decide) (.slice (some ⟨w.heap.size, 0, none⟩) 0 0) 0 [] rfl (World.ownsRow_made w #[] 0 (Nat.le_refl _) (by decide) rfl) ad n c (nums .u8 xs) rfl (by rw [nums_length]; omega) (hnews _) nums_one b1 b2 (by simp) ?c3)
  case c3 =>
    intro v' w1 hown hgr _
    obtain ⟨g, cap, hv, _⟩ := hown.form hn.1
    have hB : Below w.heap.size w w1 := ((Below.refl _ _).alloc (Nat.le_refl _) _).grown hgr (by simp) (fun k hk => by simp [Value.ownBlock] at hk; omega)
    subst hv
    clear hgr
    go_wp2
    go_returns
    exact ⟨g, cap, rfl, by simpa using hown, hB⟩
theorem cloned_c (ad : Addr) (n c : Nat) (xs : List Int) (hn : 0 < n ∧ n ≤ 1000000) (w : World) (hr : Rds w .u8 (some ad) n xs) :
    Calls Tryz.prog 22 #[.agg #[.slice (some ad) n c]] w fun e w' => ∃ g cap, e = .returned (.agg #[.slice (some ⟨g, 0, none⟩) n cap]) ∧ w'.ownsRow w.heap.size 5 1 (.slice (some ⟨g, 0, none⟩) n cap) n (nums .u8 xs) ∧ Below w.heap.size w w' := by
  have hr2 := hr.later (Dn.trans (Dn.al w (.cells #[.slice (some ad) n c] 30)) (Dn.al _ (.cells #[.slice none 0 0] 30)))
  have hr3 := Lib.hid hr2
  clear hr2 hr
  go_enter Tryz.func22, Tryz.ntmps22
  go_wp2_with fail
  refine (Clone_c ad n c xs hn _ hr3.out).mono ?_
  rintro e w1 ⟨g, cap, rfl, hown, hb⟩
  have k2 := (Bk.new1 w (.cells #[.slice (some ad) n c] 30) 30 #[.slice none 0 0]).later hb
  have hB : Below w.heap.size w w1 := Dn.trans (Dn.al w _) (Dn.trans (Dn.al _ _) hb)
  have hown2 := own_more hown (b2 := w.heap.size) (by simp; omega)
  have hne := own_apart hown2 k2 (by decide)
  have c0 := k2.cell 0
  have f0 := k2.frozen 0
  clear hb hown k2
  go_wp2
  refine bodyPost_ret (v := .agg #[.slice (some ⟨g, 0, none⟩) n cap]) (by simp [results, Tryz.results22, go_sem, c0]) rfl ⟨g, cap, rfl, own_far hown2 (p := ⟨w.heap.size + 1, 0, none⟩) hne _, hB.setCell (p := ⟨w.heap.size + 1, 0, none⟩) (Nat.le_succ _) _⟩
/-- The memory is right, and the byte at pc is no operation. -/
def jamsF (xs : List Int) (pc : Int) : Bool := okSizeB xs.length && (opF (rd xs (pc % (xs.length : Int)))).1.isEmpty
set_option maxHeartbeats 1000000 in
theorem Jams_c (A : Option Addr) (n c : Nat) (xs : List Int) (pc : Int) (h0 : 0 ≤ pc) (h1 : pc < 65536) (hs : okSize n) (hx : Byt xs) (w : World) (hr : Rds w .u8 A n xs) (hG : Gl w) :
    Calls Tryz.prog 27 #[.agg #[.slice A n c], .int .u16 pc] w fun e w' => e = .returned (.bool (opF (rd xs (pc % (n : Int)))).1.isEmpty) ∧ Below w.heap.size w w' := by
  have HS := Lib.hid ((okSizeB_iff n).2 hs)
  have HR := Lib.hid hr
  have hn : n ≤ 4096 := by unfold okSize at hs; omega
  have hb := hx.rd (pc % (n : Int))
  clear hr
  go_enter Tryz.func27, Tryz.ntmps27
  go_wp2_with fail
  refine (RamOk_c _ _ _ (by omega) _).mono ?_
  rintro e w1 ⟨rfl, hb1⟩
  rw [HS.out]
  have k1 := (Bk.new w 30 #[.slice A n c]).later hb1
  have hB : Below w.heap.size w w1 := Dn.trans (Dn.al w _) hb1
  have c0 := k1.cell 0
  clear hb1
  go_wp2_with fail
  refine (Peek_c A n c xs pc h0 h1 hs _ (HR.out.later hB)).mono ?_
  rintro e w2 ⟨rfl, hb2⟩
  go_wp2_with fail
  refine (NameOf_c _ hb.1 hb.2 _ (hG.later (Dn.trans hB hb2))).mono ?_
  rintro e w3 ⟨rfl, hb3⟩
  go_wp2
  go_returns
  exact ⟨rfl, Dn.trans hB (Dn.trans hb2 hb3)⟩
end Go.Proofs.YtemahcjglmhefaaGreatDoor
namespace Go.Proofs.YtemahcjglmhefaaGreatDoor
set_option linter.unusedVariables false
set_option linter.unusedSimpArgs false
open Go.RowKit
attribute [local irreducible] World.setCell

theorem infoCyc : (Tryz.prog.info? 44).map (fun i => (i.zero, i.size, i.bytes)) = some (some (.agg #[.int .u16 0, .int .u8 0, .bool false]), 3, 4) := by kernel_rfl
section
variable {B : Nat} {w0 w w' : World} {b g : Nat} {m : Ms}
/-- Behind an append to the cycles and a store of the new slice. -/
theorem St.log (h : St B w0 b g m w) {cv cv' : Value} (c : Cy) (hw : w.grownBy w' cv.ownBlock) (hc : w.cell? ⟨b, 12, none⟩ = some cv) (hcv : w.ownsRow B 44 3 cv m.cy.length (cyCells m.cy))
    (hn : w'.ownsRow B 44 3 cv' (m.cy.length + 1) (cyCells m.cy ++ [.int .u16 c.ad, .int .u8 c.da, .bool c.wr])) :
    St B w0 b g { m with cy := m.cy ++ [c] } (w'.setCell ⟨b, 12, none⟩ cv') := by
  obtain ⟨hB, hG, h1, h2, h3, hfr, h4, h5, h6, cap, cv0, h7, h8, h9⟩ := h
  have hcell := h7.cell 12
  rw [hc] at hcell
  simp at hcell
  subst hcell
  have hne : some b ≠ cv.ownBlock := own_apart h9 h7 (by decide)
  have k7 := h7.grown hw hne
  have k8 := h8.kept hw (own_apart2 h8 h9 (by decide))
  have hb2 : Below B w w' := grown_below hw h3 (fun k hk => own_base h9 k hk)
  refine ⟨hB, hG, h1, (h2.trans hb2).setCell h1 _, ?_, (hfr.trans ⟨hw.size, fun k t cs hk _ _ k3 => hk.grown hw (own_apart h9 hk (Ne.symm k3))⟩).trans (Fr.put (Or.inl rfl) _ _), h4, h5, h6, cap, cv', ?_, ?_, ?_⟩
  · rw [World.size_setCell]
    exact Nat.le_trans h3 hb2.size
  · have := k7.put 12 cv'
    simpa using this
  · exact own_far k8 (p := ⟨b, 12, none⟩) (own_apart k8 k7 (by decide)) _
  · have e : m.cy.length + 1 = (m.cy ++ [c]).length := by simp
    rw [← e, cyCells_append]
    exact own_far hn (p := ⟨b, 12, none⟩) (own_apart hn k7 (by decide)) _
end
theorem St.still {B : Nat} {w0 w w' : World} {b g : Nat} {m : Ms} (h : St B w0 b g m w) {cv : Value} {e : TypeId} {s n : Nat} {xs : List Value} (hw : w.grownBy w' cv.ownBlock) (hcv : w.ownsRow B e s cv n xs) (he : e ≠ 57) :
    (∀ i, w'.cell? ⟨b, i, none⟩ = w.cell? ⟨b, i, none⟩) ∧ (∀ i, w'.frozen? ⟨b, i, none⟩ = false) := by
  obtain ⟨cap, cv0, h7, h8, h9⟩ := h.mem
  have k7 := h7.grown hw (own_apart hcv h7 he)
  exact ⟨fun i => by rw [k7.cell, h7.cell], k7.frozen⟩
set_option maxHeartbeats 1000000 in
theorem read_c {B : Nat} {w0 w : World} {b g : Nat} {m : Ms} (h : St B w0 b g m w) (ad : Int) (h0 : 0 ≤ ad) (h1 : ad < 65536) (hl : m.cy.length < 1000000) :
    Calls Tryz.prog 44 #[.pointer (some ⟨b, 0, none⟩), .int .u16 ad] w fun e w' => e = .returned (.int .u8 (m.look ad)) ∧ St B w0 b g (m.read ad) w' := by
  obtain ⟨cap, cv, hc, hf, hram, hcy⟩ := h.open_
  obtain ⟨A, cp, eA, hrd⟩ := own_rds hram
  cases eA
  have hlt := h.lt
  go_enter Tryz.func44, Tryz.ntmps44
  go_wp2_with fail
  refine (Peek_c _ _ _ _ ad h0 h1 h.sok _ hrd).mono ?_
  rintro e w1 ⟨rfl, hb1⟩
  have h' := h.later hb1
  clear hc hf hram hcy hrd
  obtain ⟨cap2, cv, hc, hf, hram, hcy⟩ := h'.open_
  have hlt1 := h'.lt
  have htop := h'.top
  have hl2 : (m.cy.length + 1) * 4 ≤ 140737488355328 := by omega
  have hl3 : m.cy.length + 1 ≤ maxLen := by unfold maxLen; omega
  obtain ⟨i0, hi, hz0, hz1, hz2⟩ := info_parts infoCyc
  have H' := Lib.hid h'
  clear h h'
  go_wp2_with (at_builtin; refine wpList_append_own _ rfl (.tmp 16) (.tmp 20) 33 rfl B 44 i0 _ 3 4 Tryz.underlying33 hi hz0 hz1 hz2 rfl (by decide) cv m.cy.length (cyCells m.cy) rfl (hcy.alloc _) ⟨w1.heap.size, 0, none⟩ 1 1 [.int .u16 ad, .int .u8 (rd m.ram (ad % (m.ram.length : Int))), .bool false] rfl rfl ?c1 ?c2 hl3 hl2 (by simp; omega) ?c3)
  try case c1 => intro j u hj; match j, hj with | 0, hj => simp at hj; subst hj; simp [Addr.add] | 1, hj => simp at hj; subst hj; simp [Addr.add] | 2, hj => simp at hj; subst hj; simp [Addr.add]
  case c2 => first | (intro u hu; simp at hu; rcases hu with rfl | rfl | rfl <;> rfl) | exact ⟨rfl, rfl, rfl⟩
  case c3 =>
    intro v' w2 hown hgr _
    obtain ⟨A', c', rfl⟩ := own_shape hown
    clear hl2 hl3 hi hz0 hz1 hz2
    have hc12 : ∀ o, (w1.alloc o).cell? ⟨b, 12, none⟩ = some cv := fun o => by rw [World.cell?_alloc_lt w1 o _ hlt1, hc]; rfl
    have h1 := H'.out.later (Dn.al w1 (.cells #[.int .u16 ad, .int .u8 (rd m.ram (ad % (m.ram.length : Int))), .bool false] 44))
    have h2 := h1.log ⟨ad, rd m.ram (ad % (m.ram.length : Int)), false⟩ hgr (hc12 _) (hcy.alloc _) hown
    obtain ⟨k1, k2⟩ := h1.still hgr (hcy.alloc _) (by decide)
    have k3 : w2.cell? ⟨b, 12, none⟩ = some cv := by rw [k1]; exact hc12 _
    have k4 := k2 12
    have H2 := Lib.hid h2
    clear k1 k2 h1 hc hf hc12 h2 hgr hown
    go_wp2
    go_returns
    exact ⟨rfl, H2.out⟩
theorem St.ramAt {B : Nat} {w0 w : World} {b g : Nat} {m : Ms} (h : St B w0 b g m w) :
    (∀ j, j < m.ram.length → w.cell? ⟨g, j, none⟩ = some (.int .u8 (m.ram.getD j 0)) ∧ w.frozen? ⟨g, j, none⟩ = false) ∧
    ∀ (j : Nat) (v : Int), j < m.ram.length → 0 ≤ v ∧ v < 256 → St B w0 b g { m with ram := m.ram.set j v } (w.setCell ⟨g, j, none⟩ (.int .u8 v)) := by
  have hg := h.ltg
  obtain ⟨hB, hG, h1, h2, h3, hfr, h4, h5, h6, cap, cv, h7, h8, h9⟩ := h
  refine ⟨fun j hj => ⟨?_, h8.frozenAt j⟩, fun j v hj hv => ?_⟩
  · rw [h8.cellAt j (by omega)]
    simp [nums, List.getElem?_eq_getElem hj, List.getD_eq_getElem?_getD]
  · obtain ⟨k1, k2⟩ := h8.stored j (.int .u8 v)
    refine ⟨hB, hG, h1, h2.setCell hg.1 _, by rw [World.size_setCell]; exact h3, hfr.trans (Fr.put (Or.inr rfl) _ _), h4, by simpa using h5, h6.set j hv, cap, cv, ?_, ?_, own_far h9 (p := ⟨g, j, none⟩) (fun e => ?_) _⟩
    · rw [List.length_set]
      exact h7.far (p := ⟨g, j, none⟩) (fun e => hg.2.2 e.symm) _
    · have e : nums .u8 (m.ram.set j v) = (nums .u8 m.ram).set j (.int .u8 v) := by simp [nums, List.map_set]
      rw [e, List.length_set]
      exact k1
    · rcases own_apart2 h8 h9 (by decide) with k | k
      · simp [Value.ownBlock] at k
      · exact k (by simpa [Value.ownBlock] using e)
set_option maxHeartbeats 2000000 in
theorem write_c {B : Nat} {w0 w : World} {b g : Nat} {m : Ms} (h : St B w0 b g m w) (ad v : Int) (h0 : 0 ≤ ad) (h1 : ad < 65536) (hv : 0 ≤ v ∧ v < 256) (hl : m.cy.length < 1000000) :
    Calls Tryz.prog 73 #[.pointer (some ⟨b, 0, none⟩), .int .u16 ad, .int .u8 v] w fun e w' => e = .returned (.tuple #[]) ∧ St B w0 b g (m.write ad v) w' := by
  obtain ⟨hr, hput⟩ := h.ramAt
  obtain ⟨cap, cv, hc, _, _, _⟩ := h.open_
  have hlt := h.lt
  obtain ⟨_, hlg, hgb⟩ := h.ltg
  have hn : 0 < m.ram.length ∧ m.ram.length ≤ 4096 := by have := h.sok; unfold okSize at this; omega
  have i0 : 0 ≤ ad % (m.ram.length : Int) := Int.emod_nonneg _ (by omega)
  have i1 : ad % (m.ram.length : Int) < (m.ram.length : Int) := Int.emod_lt_of_pos _ (by omega)
  have hj : (ad % (m.ram.length : Int)).toNat < m.ram.length := by omega
  have hr' := hr _ hj
  have c11 := hc 11
  clear hr hput
  go_enter Tryz.func73, Tryz.ntmps73
  go_wp2_with fail
  go_region_held3 (fun w' => w'.cell? ⟨b, 11, none⟩ = some (.slice (some ⟨g, 0, none⟩) m.ram.length cap)) (first | exact c11 | exact (hb2.cell hlt).trans c11 | (rw [World.cell?_setCell_other _ _ _ _ (fun e => hgb (congrArg Addr.block e))]; exact (hb2.cell hlt).trans c11)) (first | (go_at_call 52; refine (at_c _ _ _ _ h0 h1 hn.1 (by omega) _).mono ?_; rintro e w2 ⟨rfl, hb2⟩; have q1 := (hb2.cell (p := ⟨g, (ad % (m.ram.length : Int)).toNat, none⟩) hlg).trans hr'.1; have q2 := (hb2.frozen (p := ⟨g, (ad % (m.ram.length : Int)).toNat, none⟩) hlg).trans hr'.2))
  have hs2 := h.later (Dn.trans (Dn.drew w) hb2)
  have h' := hs2.ramAt.2 _ v hj hv
  clear q1 q2 c11 hr' hc
  rename_i hHeld
  clear hHeld
  generalize w2.setCell ⟨g, (ad % (m.ram.length : Int)).toNat, none⟩ (.int .u8 v) = w1 at *
  obtain ⟨cap2, cv, hc, hf, hram, hcy⟩ := h'.open_
  have hlt1 := h'.lt
  have htop := h'.top
  have hl2 : (m.cy.length + 1) * 4 ≤ 140737488355328 := by omega
  have hl3 : m.cy.length + 1 ≤ maxLen := by unfold maxLen; omega
  obtain ⟨i0, hi, hz0, hz1, hz2⟩ := info_parts infoCyc
  have H' := Lib.hid h'
  have HW := Lib.hid (rfl : m.write ad v = { { m with ram := m.ram.set (ad % (m.ram.length : Int)).toNat v } with cy := m.cy ++ [⟨ad, v, true⟩] })
  clear h h' hs2 hb2
  go_wp2_with (at_builtin; refine wpList_append_own _ rfl (.tmp 23) (.tmp 27) 33 rfl B 44 i0 _ 3 4 Tryz.underlying33 hi hz0 hz1 hz2 rfl (by decide) cv m.cy.length (cyCells m.cy) rfl (hcy.alloc _) ⟨w1.heap.size, 0, none⟩ 1 1 [.int .u16 ad, .int .u8 v, .bool true] rfl rfl ?c1 ?c2 hl3 hl2 (by simp; omega) ?c3)
  try case c1 => intro j u hj; match j, hj with | 0, hj => simp at hj; subst hj; simp [Addr.add] | 1, hj => simp at hj; subst hj; simp [Addr.add] | 2, hj => simp at hj; subst hj; simp [Addr.add]
  case c2 => first | (intro u hu; simp at hu; rcases hu with rfl | rfl | rfl <;> rfl) | exact ⟨rfl, rfl, rfl⟩
  case c3 =>
    intro v' w2 hown hgr _
    obtain ⟨A', c', rfl⟩ := own_shape hown
    clear hl2 hl3 hi hz0 hz1 hz2
    have hc12 : ∀ o, (w1.alloc o).cell? ⟨b, 12, none⟩ = some cv := fun o => by rw [World.cell?_alloc_lt w1 o _ hlt1, hc]; rfl
    have h1 := H'.out.later (Dn.al w1 (.cells #[.int .u16 ad, .int .u8 v, .bool true] 44))
    have h2 := h1.log ⟨ad, v, true⟩ hgr (hc12 _) (hcy.alloc _) hown
    obtain ⟨k1, k2⟩ := h1.still hgr (hcy.alloc _) (by decide)
    have k3 : w2.cell? ⟨b, 12, none⟩ = some cv := by rw [k1]; exact hc12 _
    have k4 := k2 12
    have H2 := Lib.hid h2
    clear k1 k2 h1 hc hf hc12 h2 hgr hown
    go_wp2
    go_returns
    exact ⟨rfl, H2.out⟩
end Go.Proofs.YtemahcjglmhefaaGreatDoor
namespace Go.Proofs.YtemahcjglmhefaaGreatDoor
set_option linter.unusedVariables false
set_option linter.unusedSimpArgs false
open Go.RowKit
attribute [local irreducible] World.setCell

theorem readTwo_c {B : Nat} {w0 w : World} {b g : Nat} {m : Ms} (h : St B w0 b g m w) (x y : Int) (h0 : 0 ≤ x) (h1 : x < 65536) (h2 : 0 ≤ y) (h3 : y < 65536) (hl : m.cy.length < 999990) :
    Calls Tryz.prog 47 #[.pointer (some ⟨b, 0, none⟩), .int .u16 x, .int .u16 y] w fun e w' => e = .returned (.int .u16 (m.word x y)) ∧ St B w0 b g (m.read2 x y) w' := by
  have a1 := Ms.look_ok h.byt x
  have a2 := Ms.look_ok h.byt y
  go_enter Tryz.func47, Tryz.ntmps47
  go_wp2_with fail
  refine (read_c h x h0 h1 (by omega)).mono ?_
  rintro e w1 ⟨rfl, s1⟩
  go_wp2_with fail
  refine (read_c s1 y h2 h3 (by simp [Ms.read]; omega)).mono ?_
  rintro e w2 ⟨rfl, s2⟩
  go_wp2_with (go_at_call 76; refine (wordOf_c (m.look x) ((m.read x).look y) a1.1 a1.2 a2.1 a2.2 _).mono ?_; rintro e w3 ⟨rfl, rfl⟩)
  go_returns
  exact ⟨rfl, s2⟩
set_option maxHeartbeats 1000000 in
theorem push_c {B : Nat} {w0 w : World} {b g : Nat} {m : Ms} (h : St B w0 b g m w) (k cap : Nat) (xs : List Int) (hx : Byt xs) (hk : Bk w k 5 (nums .u8 xs).toArray) (hkb : k ≠ b) (hkg : k ≠ g) (hl : m.cy.length < 999000) (hn : xs.length ≤ 3) :
    Calls Tryz.prog 45 #[.pointer (some ⟨b, 0, none⟩), .slice (some ⟨k, 0, none⟩) xs.length cap] w fun e w' => e = .returned (.tuple #[]) ∧ St B w0 b g (m.push xs) w' := by
  have s0 := h.from_
  go_enter Tryz.func45, Tryz.ntmps45
  go_wp2_with fail
  go_loopw [5, 8] (fun _ i wr => ∃ j : Nat, j ≤ xs.length ∧ i = .int .i64 j ∧ St B w b g (m.push (xs.take j)) wr) (fun _ i _ => xs.length - (intOf i).toNat)
  case atStart => exact ⟨0, Nat.zero_le _, rfl, s0⟩
  case round =>
    obtain ⟨j, hj, rfl, hs⟩ := hrel
    by_cases hlt : j < xs.length
    · have hkk := hs.fr.2 k _ _ hk hkb hkg (by decide)
      have hv : wr.cell? ⟨k, j, none⟩ = some (.int .u8 (xs.getD j 0)) := by
        rw [hkk.cell]
        simp [nums, hlt]
      have hxv := hx.rd j
      simp only [rd, Int.toNat_natCast] at hxv
      have ht : xs.take (j + 1) = xs.take j ++ [xs.getD j 0] := by
        rw [List.take_succ_eq_append_getElem hlt, List.getD_eq_getElem?_getD, List.getElem?_eq_getElem hlt]
        rfl
      have hp : m.push (xs.take (j + 1)) = (m.push (xs.take j)).push1 (xs.getD j 0) := by rw [ht, Ms.push_snoc]
      have HP := Lib.hid hp
      have hcy : (m.push (xs.take j)).cy.length < 1000000 := by rw [Ms.push_cy, List.length_take]; omega
      obtain ⟨cap', cv, hc, hf, _, _⟩ := hs.open_
      have hc3 := hc 3
      have hsr := hs.cok.2.2.2.1
      generalize xs.getD j 0 = v at *
      generalize m.push (xs.take j) = q at *
      clear ht hp hkk hc hf s0
      have HS := Lib.hid hs
      go_wp2_with (go_at_call 74; refine (stack_c _ hsr.1 hsr.2 _).mono ?_; rintro e w3 ⟨rfl, rfl⟩)
      go_wp2_with fail
      refine (write_c hs (256 + q.c.s) v (by omega) (by omega) hxv hcy).mono ?_
      rintro e w3 ⟨rfl, h3⟩
      obtain ⟨cap3, cv3, kc, kf, _, _⟩ := h3.open_
      have h4 := h3.setS (v := (q.c.s - 1) % 256) (by omega)
      have H4 := Lib.hid h4
      clear h3 h4 hs hv hc3
      have kc3 := kc 3
      have kf3 := kf 3
      clear kc kf
      go_wp2
      go_roundw
      case rel => exact ⟨j + 1, by omega, by go_num, by rw [HP.out]; exact H4.out⟩
      case measure => simp [intOf]; omega
    · go_wp2
      go_returns
      obtain rfl : j = xs.length := by omega
      rw [List.take_length] at hs
      exact ⟨rfl, h.trans_ hs⟩
end Go.Proofs.YtemahcjglmhefaaGreatDoor
