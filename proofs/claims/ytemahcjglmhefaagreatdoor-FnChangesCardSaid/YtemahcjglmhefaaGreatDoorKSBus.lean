/- The reference's bus: its memory and its cycles in the heap; a read, a write. No condition. The reference's bus: the stack, three bytes on it. No condition. -/
import Derived.Test.YtemahcjglmhefaaGreatDoorKMem
import Derived.Test.YtemahcjglmhefaaGreatDoorKSOf
import Derived.Test.YtemahcjglmhefaaGreatDoorKOp
import Derived.Test.YtemahcjglmhefaaGreatDoorKPlace
namespace Go.Proofs.YtemahcjglmhefaaGreatDoor
set_option linter.unusedVariables false
set_option linter.unusedSimpArgs false
open Go.RowKit
attribute [local irreducible] World.setCell

/-- The bus at block b: its memory (block g), its cycles, all made since B. -/
structure Bu (B : Nat) (w0 : World) (b g : Nat) (m : Ms) (w : World) : Prop where
  b4 : 4 ≤ B
  gl0 : Gl w0
  lo : B ≤ b
  bel : Below B w0 w
  top : B ≤ w.heap.size
  fr : Fr b g w0 w
  sok : okSize m.ram.length
  byt : Byt m.ram
  mem : ∃ cap cv, Bk w b 61 #[.slice (some ⟨g, 0, none⟩) m.ram.length cap, cv] ∧
    w.ownsRow B 5 1 (.slice (some ⟨g, 0, none⟩) m.ram.length cap) m.ram.length (nums .u8 m.ram) ∧ w.ownsRow B 44 3 cv m.cy.length (cyCells m.cy)
section
variable {B : Nat} {w0 w w' : World} {b g : Nat} {m m' : Ms}
theorem Bu.later (h : Bu B w0 b g m w) (hb : Below w.heap.size w w') : Bu B w0 b g m w' := by
  obtain ⟨hB, hG, h1, h2, h3, hf, h5, h6, cap, cv, h7, h8, h9⟩ := h
  exact ⟨hB, hG, h1, Bl.then_ h2 h3 hb, Nat.le_trans h3 hb.size, hf.trans (Fr.later hb), h5, h6, cap, cv, h7.later hb, own_later h8 hb, own_later h9 hb⟩
theorem Bu.drewN (h : Bu B w0 b g m w) (n : Nat) : Bu B w0 b g m (w.drewN n) := h.later (Bl.drewN (Below.refl _ _) n)
theorem Bu.drew (h : Bu B w0 b g m w) : Bu B w0 b g m w.drew := h.later (Dn.drew w)
theorem Bu.gl (h : Bu B w0 b g m w) : Gl w := h.gl0.below h.bel h.b4
theorem Bu.from_ (h : Bu B w0 b g m w) : Bu B w b g m w := ⟨h.b4, h.gl, h.lo, Below.refl _ _, h.top, Fr.refl _ _ _, h.sok, h.byt, h.mem⟩
theorem Bu.trans_ (h : Bu B w0 b g m w) (k : Bu B w b g m' w') : Bu B w0 b g m' w' := ⟨k.b4, h.gl0, k.lo, h.bel.trans k.bel, k.top, h.fr.trans k.fr, k.sok, k.byt, k.mem⟩
theorem Bu.c_ (h : Bu B w0 b g m w) (c : Cp) : Bu B w0 b g { m with c := c } w := ⟨h.b4, h.gl0, h.lo, h.bel, h.top, h.fr, h.sok, h.byt, h.mem⟩
theorem Bu.open_ (h : Bu B w0 b g m w) : ∃ cap cv, (∀ i, w.cell? ⟨b, i, none⟩ = (#[.slice (some ⟨g, 0, none⟩) m.ram.length cap, cv] : Array Value)[i]?) ∧
    (∀ i, w.frozen? ⟨b, i, none⟩ = false) ∧ w.ownsRow B 5 1 (.slice (some ⟨g, 0, none⟩) m.ram.length cap) m.ram.length (nums .u8 m.ram) ∧ w.ownsRow B 44 3 cv m.cy.length (cyCells m.cy) := by
  obtain ⟨cap, cv, h7, h8, h9⟩ := h.mem
  exact ⟨cap, cv, h7.cell, h7.frozen, h8, h9⟩
theorem Bu.lt (h : Bu B w0 b g m w) : b < w.heap.size := by
  obtain ⟨cap, cv, h7, h8, h9⟩ := h.mem
  exact h7.lt
theorem Bu.ltg (h : Bu B w0 b g m w) : B ≤ g ∧ g < w.heap.size ∧ g ≠ b := by
  obtain ⟨cap, cv, h7, h8, h9⟩ := h.mem
  have hne := own_apart h8 h7 (by decide)
  exact ⟨(h8.lt g rfl).1, (h8.lt g rfl).2, fun e => hne (by simp [Value.ownBlock, e])⟩
theorem Bu.log (h : Bu B w0 b g m w) {cv cv' : Value} (c : Cy) (hw : w.grownBy w' cv.ownBlock) (hc : w.cell? ⟨b, 1, none⟩ = some cv) (hcv : w.ownsRow B 44 3 cv m.cy.length (cyCells m.cy))
    (hn : w'.ownsRow B 44 3 cv' (m.cy.length + 1) (cyCells m.cy ++ [.int .u16 c.ad, .int .u8 c.da, .bool c.wr])) :
    Bu B w0 b g { m with cy := m.cy ++ [c] } (w'.setCell ⟨b, 1, none⟩ cv') := by
  obtain ⟨hB, hG, h1, h2, h3, hfr, h5, h6, cap, cv0, h7, h8, h9⟩ := h
  have hcell := h7.cell 1
  rw [hc] at hcell
  simp at hcell
  subst hcell
  have hne : some b ≠ cv.ownBlock := own_apart h9 h7 (by decide)
  have k7 := h7.grown hw hne
  have k8 := h8.kept hw (own_apart2 h8 h9 (by decide))
  have hb2 : Below B w w' := grown_below hw h3 (fun k hk => own_base h9 k hk)
  refine ⟨hB, hG, h1, (h2.trans hb2).setCell h1 _, ?_, (hfr.trans ⟨hw.size, fun k t cs hk _ _ k3 => hk.grown hw (own_apart h9 hk (Ne.symm k3))⟩).trans (Fr.put (Or.inl rfl) _ _), h5, h6, cap, cv', ?_, ?_, ?_⟩
  · rw [World.size_setCell]
    exact Nat.le_trans h3 hb2.size
  · have := k7.put 1 cv'
    simpa using this
  · exact own_far k8 (p := ⟨b, 1, none⟩) (own_apart k8 k7 (by decide)) _
  · have e : m.cy.length + 1 = (m.cy ++ [c]).length := by simp
    rw [← e, cyCells_append]
    exact own_far hn (p := ⟨b, 1, none⟩) (own_apart hn k7 (by decide)) _
theorem Bu.still (h : Bu B w0 b g m w) {cv : Value} {e : TypeId} {s n : Nat} {xs : List Value} (hw : w.grownBy w' cv.ownBlock) (hcv : w.ownsRow B e s cv n xs) (he : e ≠ 61) :
    (∀ i, w'.cell? ⟨b, i, none⟩ = w.cell? ⟨b, i, none⟩) ∧ (∀ i, w'.frozen? ⟨b, i, none⟩ = false) := by
  obtain ⟨cap, cv0, h7, h8, h9⟩ := h.mem
  have k7 := h7.grown hw (own_apart hcv h7 he)
  exact ⟨fun i => by rw [k7.cell, h7.cell], k7.frozen⟩
theorem Bu.ramAt (h : Bu B w0 b g m w) :
    (∀ j, j < m.ram.length → w.cell? ⟨g, j, none⟩ = some (.int .u8 (m.ram.getD j 0)) ∧ w.frozen? ⟨g, j, none⟩ = false) ∧
    ∀ (j : Nat) (v : Int), j < m.ram.length → 0 ≤ v ∧ v < 256 → Bu B w0 b g { m with ram := m.ram.set j v } (w.setCell ⟨g, j, none⟩ (.int .u8 v)) := by
  have hg := h.ltg
  obtain ⟨hB, hG, h1, h2, h3, hfr, h5, h6, cap, cv, h7, h8, h9⟩ := h
  refine ⟨fun j hj => ⟨?_, h8.frozenAt j⟩, fun j v hj hv => ?_⟩
  · rw [h8.cellAt j (by omega)]
    simp [nums, List.getElem?_eq_getElem hj, List.getD_eq_getElem?_getD]
  · obtain ⟨k1, k2⟩ := h8.stored j (.int .u8 v)
    refine ⟨hB, hG, h1, h2.setCell hg.1 _, by rw [World.size_setCell]; exact h3, hfr.trans (Fr.put (Or.inr rfl) _ _), by simpa using h5, h6.set j hv, cap, cv, ?_, ?_, own_far h9 (p := ⟨g, j, none⟩) (fun e => ?_) _⟩
    · rw [List.length_set]
      exact h7.far (p := ⟨g, j, none⟩) (fun e => hg.2.2 e.symm) _
    · have e : nums .u8 (m.ram.set j v) = (nums .u8 m.ram).set j (.int .u8 v) := by simp [nums, List.map_set]
      rw [e, List.length_set]
      exact k1
    · rcases own_apart2 h8 h9 (by decide) with k | k
      · simp [Value.ownBlock] at k
      · exact k (by simpa [Value.ownBlock] using e)
end
theorem and65535 (n : Int) : bits .and .i64 n 65535 = u16 n := by
  have h255 : (BitVec.ofInt 64 65535).toNat = 2 ^ 16 - 1 := by decide
  have key : (BitVec.ofInt 64 n &&& BitVec.ofInt 64 65535).toNat = (n % ((2 ^ 64 : Nat) : Int)).toNat % 2 ^ 16 := by
    rw [BitVec.toNat_and, BitVec.toNat_ofInt, h255, Nat.and_two_pow_sub_one_eq_mod]
  show IntKind.i64.wrap ((BitVec.ofInt 64 n &&& BitVec.ofInt 64 65535).toNat : Nat) = n % 65536
  rw [key, IntKind.wrap_i64]
  omega
set_option maxHeartbeats 2000000 in
theorem sRead_c {B : Nat} {w0 w : World} {b g : Nat} {m : Ms} (h : Bu B w0 b g m w) (ad : Int) (hl : m.cy.length < 1000000) :
    Calls Tryz.prog 24 #[.pointer (some ⟨b, 0, none⟩), .int .i64 ad] w fun e w' => e = .returned (.int .u8 (m.look (u16 ad))) ∧ Bu B w0 b g (m.read (u16 ad)) w' := by
  have e0 := and65535 ad
  have hx := u16_ok ad
  generalize u16 ad = x at *
  obtain ⟨hr, hput⟩ := h.ramAt
  obtain ⟨cap, cv, hc, hf, hram, hcy⟩ := h.open_
  have hlt := h.lt
  obtain ⟨_, hlg, hgb⟩ := h.ltg
  have hn : 0 < m.ram.length ∧ m.ram.length ≤ 4096 := by have := h.sok; unfold okSize at this; omega
  have i0 : 0 ≤ x % (m.ram.length : Int) := Int.emod_nonneg _ (by omega)
  have i1 : x % (m.ram.length : Int) < (m.ram.length : Int) := Int.emod_lt_of_pos _ (by omega)
  have hj : (x % (m.ram.length : Int)).toNat < m.ram.length := by omega
  have q1 := (hr _ hj).1
  have q2 := (hr _ hj).2
  have c0 := hc 0
  have HH := Lib.hid h
  have hrd : m.ram.getD (x % (m.ram.length : Int)).toNat 0 = m.look x := rfl
  rw [hrd] at q1
  have hne0 : m.ram ≠ [] := by intro e; rw [e] at hn; simp at hn
  have e1 : x.tmod (m.ram.length : Int) = x % (m.ram.length : Int) := Int.tmod_eq_emod_of_nonneg hx.1
  clear hr hput hc hf hram hcy hrd h
  go_enter Tryz.func24, Tryz.ntmps24
  go_wp2_with fail
  go_region_held3 (fun w' => w'.cell? ⟨b, 0, none⟩ = some (.slice (some ⟨g, 0, none⟩) m.ram.length cap) ∧ w'.cell? ⟨g, (x % (m.ram.length : Int)).toNat, none⟩ = some (.int .u8 (m.look x))) (exact ⟨c0, q1⟩) (fail)
  rename_i hHeld
  clear hHeld c0 q1 q2 e0 e1
  have h' := HH.out.drew
  generalize w.drew = w1 at *
  clear hlt
  obtain ⟨cap2, cv, hc, hf, hram, hcy⟩ := h'.open_
  have hlt1 := h'.lt
  have htop := h'.top
  have hl2 : (m.cy.length + 1) * 4 ≤ 140737488355328 := by omega
  have hl3 : m.cy.length + 1 ≤ maxLen := by unfold maxLen; omega
  obtain ⟨i0, hi, hz0, hz1, hz2⟩ := info_parts infoCyc
  have H' := Lib.hid h'
  clear h' hram
  go_wp2_with (at_builtin; refine wpList_append_own _ rfl (.tmp 26) (.tmp 31) 33 rfl B 44 i0 _ 3 4 Tryz.underlying33 hi hz0 hz1 hz2 rfl (by decide) cv m.cy.length (cyCells m.cy) rfl (hcy.alloc _) ⟨w1.heap.size, 0, none⟩ 1 1 [.int .u16 x, .int .u8 (m.look x), .bool false] rfl rfl ?c1 ?c2 hl3 hl2 (by simp; omega) ?c3)
  try case c1 => intro j u hj; match j, hj with | 0, hj => simp at hj; subst hj; simp [Addr.add] | 1, hj => simp at hj; subst hj; simp [Addr.add] | 2, hj => simp at hj; subst hj; simp [Addr.add]
  case c2 => first | (intro u hu; simp at hu; rcases hu with rfl | rfl | rfl <;> rfl) | exact ⟨rfl, rfl, rfl⟩
  case c3 =>
    intro v' w2 hown hgr _
    obtain ⟨A', c', rfl⟩ := own_shape hown
    clear hl2 hl3 hi hz0 hz1 hz2
    have hc12 : ∀ o, (w1.alloc o).cell? ⟨b, 1, none⟩ = some cv := fun o => by rw [World.cell?_alloc_lt w1 o _ hlt1, hc]; rfl
    have h1 := H'.out.later (Dn.al w1 (.cells #[.int .u16 x, .int .u8 (m.look x), .bool false] 44))
    have h2 := h1.log ⟨x, (m.look x), false⟩ hgr (hc12 _) (hcy.alloc _) hown
    obtain ⟨k1, k2⟩ := h1.still hgr (hcy.alloc _) (by decide)
    have k3 : w2.cell? ⟨b, 1, none⟩ = some cv := by rw [k1]; exact hc12 _
    have k4 := k2 1
    have H2 := Lib.hid h2
    clear k1 k2 h1 hc hf hc12 h2 hgr hown
    go_wp2
    go_returns
    exact ⟨rfl, H2.out⟩
set_option maxHeartbeats 2000000 in
theorem sWrite_c {B : Nat} {w0 w : World} {b g : Nat} {m : Ms} (h : Bu B w0 b g m w) (ad v : Int) (hv : 0 ≤ v ∧ v < 256) (hl : m.cy.length < 1000000) :
    Calls Tryz.prog 48 #[.pointer (some ⟨b, 0, none⟩), .int .i64 ad, .int .u8 v] w fun e w' => e = .returned (.tuple #[]) ∧ Bu B w0 b g (m.write (u16 ad) v) w' := by
  have e0 := and65535 ad
  have hx := u16_ok ad
  generalize u16 ad = x at *
  obtain ⟨hr, hput⟩ := h.ramAt
  obtain ⟨cap, cv, hc, hf, hram, hcy⟩ := h.open_
  have hlt := h.lt
  obtain ⟨_, hlg, hgb⟩ := h.ltg
  have hn : 0 < m.ram.length ∧ m.ram.length ≤ 4096 := by have := h.sok; unfold okSize at this; omega
  have i0 : 0 ≤ x % (m.ram.length : Int) := Int.emod_nonneg _ (by omega)
  have i1 : x % (m.ram.length : Int) < (m.ram.length : Int) := Int.emod_lt_of_pos _ (by omega)
  have hj : (x % (m.ram.length : Int)).toNat < m.ram.length := by omega
  have q1 := (hr _ hj).1
  have q2 := (hr _ hj).2
  have c0 := hc 0
  have HH := Lib.hid h
  have hrd : m.ram.getD (x % (m.ram.length : Int)).toNat 0 = m.look x := rfl
  rw [hrd] at q1
  have hne0 : m.ram ≠ [] := by intro e; rw [e] at hn; simp at hn
  have e1 : x.tmod (m.ram.length : Int) = x % (m.ram.length : Int) := Int.tmod_eq_emod_of_nonneg hx.1
  clear hr hput hc hf hram hcy hrd h
  go_enter Tryz.func48, Tryz.ntmps48
  go_wp2_with fail
  go_region_held3 (fun w' => w'.cell? ⟨b, 0, none⟩ = some (.slice (some ⟨g, 0, none⟩) m.ram.length cap)) (first | exact c0 | exact (World.cell?_setCell_other w ⟨g, (x % (m.ram.length : Int)).toNat, none⟩ _ _ (fun e => hgb (congrArg Addr.block e))).trans c0) (fail)
  rename_i hHeld
  clear hHeld c0 q1 q2 e0 e1
  have h' := (HH.out.ramAt.2 _ v hj hv).drew
  generalize (w.setCell ⟨g, (x % (m.ram.length : Int)).toNat, none⟩ (.int .u8 v)).drew = w1 at *
  clear hlt
  obtain ⟨cap2, cv, hc, hf, hram, hcy⟩ := h'.open_
  have hlt1 := h'.lt
  have htop := h'.top
  have hl2 : (m.cy.length + 1) * 4 ≤ 140737488355328 := by omega
  have hl3 : m.cy.length + 1 ≤ maxLen := by unfold maxLen; omega
  obtain ⟨i0, hi, hz0, hz1, hz2⟩ := info_parts infoCyc
  have H' := Lib.hid h'
  clear h' hram
  go_wp2_with (at_builtin; refine wpList_append_own _ rfl (.tmp 26) (.tmp 31) 33 rfl B 44 i0 _ 3 4 Tryz.underlying33 hi hz0 hz1 hz2 rfl (by decide) cv m.cy.length (cyCells m.cy) rfl (hcy.alloc _) ⟨w1.heap.size, 0, none⟩ 1 1 [.int .u16 x, .int .u8 v, .bool true] rfl rfl ?c1 ?c2 hl3 hl2 (by simp; omega) ?c3)
  try case c1 => intro j u hj; match j, hj with | 0, hj => simp at hj; subst hj; simp [Addr.add] | 1, hj => simp at hj; subst hj; simp [Addr.add] | 2, hj => simp at hj; subst hj; simp [Addr.add]
  case c2 => first | (intro u hu; simp at hu; rcases hu with rfl | rfl | rfl <;> rfl) | exact ⟨rfl, rfl, rfl⟩
  case c3 =>
    intro v' w2 hown hgr _
    obtain ⟨A', c', rfl⟩ := own_shape hown
    clear hl2 hl3 hi hz0 hz1 hz2
    have hc12 : ∀ o, (w1.alloc o).cell? ⟨b, 1, none⟩ = some cv := fun o => by rw [World.cell?_alloc_lt w1 o _ hlt1, hc]; rfl
    have h1 := H'.out.later (Dn.al w1 (.cells #[.int .u16 x, .int .u8 v, .bool true] 44))
    have h2 := h1.log ⟨x, v, true⟩ hgr (hc12 _) (hcy.alloc _) hown
    obtain ⟨k1, k2⟩ := h1.still hgr (hcy.alloc _) (by decide)
    have k3 : w2.cell? ⟨b, 1, none⟩ = some cv := by rw [k1]; exact hc12 _
    have k4 := k2 1
    have H2 := Lib.hid h2
    clear k1 k2 h1 hc hf hc12 h2 hgr hown
    go_wp2
    go_returns
    exact ⟨rfl, H2.out⟩
end Go.Proofs.YtemahcjglmhefaaGreatDoor
namespace Go.Proofs.YtemahcjglmhefaaGreatDoor
set_option linter.unusedVariables false
set_option linter.unusedSimpArgs false
open Go.RowKit
attribute [local irreducible] World.setCell
theorem sStack_c (s : Int) (h0 : -1000 ≤ s) (h1 : s < 1000) (w : World) : Calls Tryz.prog 49 #[.int .i64 s] w fun e w' => e = .returned (.int .i64 (256 + s % 256)) ∧ w = w' := by
  have e0 := and255 s
  go_enter Tryz.func49, Tryz.ntmps49
  go_wp2
  go_returns
  exact ⟨rfl, rfl⟩
theorem l02Bit_c (b : Bool) (k : Int) (w : World) : Calls Tryz.prog 35 #[.bool b, .int .i64 k] w fun e w' => e = .returned (.int .i64 (oneB b * k)) ∧ w' = w := by
  cases b
  all_goals
    go_enter Tryz.func35, Tryz.ntmps35
    go_wp2
    go_returns
    exact ⟨by simp [oneB], rfl⟩
theorem sWord_c (lo hi : Int) (h : (0 ≤ lo ∧ lo < 256) ∧ (0 ≤ hi ∧ hi < 256)) (w : World) : Calls Tryz.prog 51 #[.int .u8 lo, .int .u8 hi] w fun e w' => e = .returned (.int .i64 (hi * 256 + lo)) ∧ w = w' := by
  have e1 : lo + 256 * hi = hi * 256 + lo := by omega
  go_enter Tryz.func51, Tryz.ntmps51
  go_wp2
  go_returns
  exact ⟨rfl, rfl⟩
theorem spack_eq (f : Fl) (brk : Bool) : ∀ W : Int → Int, (∀ x, -1000 < x → x < 1000 → W x = x) → W (W (W (W (W (W (W (oneB f.n * 128 + oneB f.v * 64) + 32) + oneB brk * 16) + oneB f.d * 8) + oneB f.i * 4) + oneB f.z * 2) + oneB f.c) % 256 = packF f brk := by
  intro W hW
  have h1 := oneB_le f.n
  have h2 := oneB_le f.v
  have h3 := oneB_le brk
  have h4 := oneB_le f.d
  have h5 := oneB_le f.i
  have h6 := oneB_le f.z
  have h7 := oneB_le f.c
  unfold packF
  rw [hW (oneB f.n * 128 + oneB f.v * 64) (by omega) (by omega), hW (oneB f.n * 128 + oneB f.v * 64 + 32) (by omega) (by omega), hW (oneB f.n * 128 + oneB f.v * 64 + 32 + oneB brk * 16) (by omega) (by omega),
    hW (oneB f.n * 128 + oneB f.v * 64 + 32 + oneB brk * 16 + oneB f.d * 8) (by omega) (by omega), hW (oneB f.n * 128 + oneB f.v * 64 + 32 + oneB brk * 16 + oneB f.d * 8 + oneB f.i * 4) (by omega) (by omega),
    hW (oneB f.n * 128 + oneB f.v * 64 + 32 + oneB brk * 16 + oneB f.d * 8 + oneB f.i * 4 + oneB f.z * 2) (by omega) (by omega), hW _ (by omega) (by omega)]
  omega
set_option maxHeartbeats 2000000 in
theorem sPackP_c (f : Fl) (brk : Bool) (w : World) : Calls Tryz.prog 50 #[.agg #[.bool f.n, .bool f.v, .bool f.d, .bool f.i, .bool f.z, .bool f.c], .bool brk] w fun e w' => e = .returned (.int .u8 (packF f brk)) ∧ Below w.heap.size w w' := by
  have HP := Lib.hid (spack_eq f brk)
  go_enter Tryz.func50, Tryz.ntmps50
  go_wp2_with fail
  go_quiet ((go_at_call 35; exact Calls.quiet_of_same (l02Bit_c _ _ _)))
  go_wp2
  go_returns
  exact ⟨by rw [HP.out wrap64 (fun x h0 h1 => by unfold wrap64; omega)]; rfl, Bl.drewN (Dn.al w _) _⟩
def BuL (B : Nat) (w0 : World) (b g : Nat) (m : Ms) (L : List (Nat × TypeId)) (w : World) : Prop :=
  Bu B w0 b g m w ∧ ∀ p ∈ L, (∃ cs, Bk w p.1 p.2 cs) ∧ w0.heap.size ≤ p.1 ∧ B ≤ p.1 ∧ p.1 ≠ b ∧ p.1 ≠ g ∧ p.2 ≠ 44
theorem BuL.put {B : Nat} {w0 w : World} {b g : Nat} {m : Ms} {L : List (Nat × TypeId)} {k : Nat} {t : TypeId} (h : BuL B w0 b g m L w) (hm : (k, t) ∈ L) (i : Nat) (v : Value) : BuL B w0 b g m L (w.setCell ⟨k, i, none⟩ v) := by
  obtain ⟨⟨cs, hk⟩, h0, hB, hb, hg, ht⟩ := h.2 _ hm
  simp only at hk h0 hB hb hg ht
  refine ⟨?_, fun p hp => ?_⟩
  · obtain ⟨hB', hG, h1, h2, h3, hf, h5, h6, cap, cv, h7, h8, h9⟩ := h.1
    refine ⟨hB', hG, h1, h2.setCell (p := ⟨k, i, none⟩) hB _, by rw [World.size_setCell]; exact h3, ⟨by rw [World.size_setCell]; exact hf.1, fun q t' cs' hq x1 x2 x3 => (hf.2 q t' cs' hq x1 x2 x3).far (p := ⟨k, i, none⟩) (by have := hq.lt; show q ≠ k; omega) _⟩, h5, h6, cap, cv, h7.far (p := ⟨k, i, none⟩) (by show b ≠ k; omega) _,
      own_far h8 (p := ⟨k, i, none⟩) (by simp [Value.ownBlock]; omega) _, own_far h9 (p := ⟨k, i, none⟩) (own_apart h9 hk (Ne.symm ht)) _⟩
  · obtain ⟨⟨cs', hk'⟩, r⟩ := h.2 p hp
    refine ⟨?_, r⟩
    by_cases e : p.1 = k
    · rw [e] at hk' ⊢
      exact ⟨_, hk'.put i v⟩
    · exact ⟨_, hk'.far (p := ⟨k, i, none⟩) e v⟩
theorem BuL.of {B : Nat} {w0 w : World} {b g : Nat} {m : Ms} (h : Bu B w0 b g m w) {k1 k2 : Nat} {t : TypeId} {c1 c2 : Array Value} (h1 : Bk w k1 t c1) (h2 : Bk w k2 t c2) (ht : t ≠ 44) (hb : b < k1 ∧ b < k2) (hg : g < k1 ∧ g < k2) (h0 : w0.heap.size ≤ k1 ∧ w0.heap.size ≤ k2) (hB : B ≤ k1 ∧ B ≤ k2) : BuL B w0 b g m [(k1, t), (k2, t)] w :=
  ⟨h, fun p hp => by
    simp at hp
    rcases hp with rfl | rfl
    · exact ⟨⟨_, h1⟩, h0.1, hB.1, by simp only; omega, by simp only; omega, ht⟩
    · exact ⟨⟨_, h2⟩, h0.2, hB.2, by simp only; omega, by simp only; omega, ht⟩⟩
theorem wrap64_in (x : Int) (h0 : -1000000 ≤ x) (h1 : x < 1000000) : IntKind.i64.wrap x = x := by rw [IntKind.wrap_i64]; omega
theorem u16_stk (s : Int) : u16 (256 + s % 256) = 256 + s % 256 := by unfold u16; omega
theorem push3 (m : Ms) (a b c : Int) : m.push [a, b, c] = { ((m.write (256 + m.c.s) a).write (256 + (m.c.s - 1) % 256) b).write (256 + (m.c.s - 2) % 256) c with c := { m.c with s := (m.c.s - 3) % 256 } } := by
  simp only [Ms.push, List.foldl_cons, List.foldl_nil, Ms.push1, Ms.write]
  rw [show ((m.c.s - 1) % 256 - 1) % 256 = (m.c.s - 2) % 256 by omega, show ((m.c.s - 2) % 256 - 1) % 256 = (m.c.s - 3) % 256 by omega]
set_option maxHeartbeats 4000000 in
set_option maxRecDepth 100000 in
theorem sPush_c {B : Nat} {w0 w : World} {b g : Nat} {m : Ms} (h : Bu B w0 b g m w) (hok : m.c.ok) (pc : Int) (hpc : 0 ≤ pc ∧ pc < 65536) (brk : Bool) (v : Int) (hv : 0 ≤ v ∧ v < 65535) (hl : m.cy.length < 900000) :
    Calls Tryz.prog 25 #[.pointer (some ⟨b, 0, none⟩), .agg #[.int .u8 m.c.a, .int .u8 m.c.x, .int .u8 m.c.y, .int .u8 m.c.s, .int .u16 m.c.pc, .bool m.c.f.n, .bool m.c.f.v, .bool m.c.f.d, .bool m.c.f.i, .bool m.c.f.z, .bool m.c.f.c], .int .i64 pc, .bool brk, .int .i64 v] w fun e w' => ∃ q, q = vecF (m.push [pc / 256, u8 pc, packF m.c.f brk]) v (v + 1) ∧ e = .returned (.agg #[.int .u8 q.c.a, .int .u8 q.c.x, .int .u8 q.c.y, .int .u8 q.c.s, .int .u16 q.c.pc, .bool q.c.f.n, .bool q.c.f.v, .bool q.c.f.d, .bool q.c.f.i, .bool q.c.f.z, .bool q.c.f.c]) ∧ q.c.ok ∧ Bu B w0 b g q w' := by
  have hs : 0 ≤ m.c.s ∧ m.c.s < 256 := by unfold Cp.ok at hok; omega
  have e1 := and255 (pc / 256)
  have e2 := and255 pc
  have hp := pack_ok m.c.f brk
  have H0 := Lib.hid (h.later (Dn.trans (Dn.al w (.cells #[.int .u8 m.c.a, .int .u8 m.c.x, .int .u8 m.c.y, .int .u8 m.c.s, .int .u16 m.c.pc, .bool m.c.f.n, .bool m.c.f.v, .bool m.c.f.d, .bool m.c.f.i, .bool m.c.f.z, .bool m.c.f.c] 28)) (Dn.al _ (.cells #[.int .u8 0, .int .u8 0, .int .u8 0, .int .u8 0, .int .u16 0, .bool false, .bool false, .bool false, .bool false, .bool false, .bool false] 28))))
  have K0 := Lib.hid ((Bk.new w 28 #[.int .u8 m.c.a, .int .u8 m.c.x, .int .u8 m.c.y, .int .u8 m.c.s, .int .u16 m.c.pc, .bool m.c.f.n, .bool m.c.f.v, .bool m.c.f.d, .bool m.c.f.i, .bool m.c.f.z, .bool m.c.f.c]).al (.cells #[.int .u8 0, .int .u8 0, .int .u8 0, .int .u8 0, .int .u16 0, .bool false, .bool false, .bool false, .bool false, .bool false, .bool false] 28))
  have K1 := Lib.hid (Bk.new1 w (.cells #[.int .u8 m.c.a, .int .u8 m.c.x, .int .u8 m.c.y, .int .u8 m.c.s, .int .u16 m.c.pc, .bool m.c.f.n, .bool m.c.f.v, .bool m.c.f.d, .bool m.c.f.i, .bool m.c.f.z, .bool m.c.f.c] 28) 28 #[.int .u8 0, .int .u8 0, .int .u8 0, .int .u8 0, .int .u16 0, .bool false, .bool false, .bool false, .bool false, .bool false, .bool false])
  have hbl := h.lt
  have hgl := h.ltg
  have hw0 := h.fr.1
  have hwB := h.top
  clear h
  go_enter Tryz.func25, Tryz.ntmps25
  go_wp2_with fail
  generalize (w.alloc (.cells #[.int .u8 m.c.a, .int .u8 m.c.x, .int .u8 m.c.y, .int .u8 m.c.s, .int .u16 m.c.pc, .bool m.c.f.n, .bool m.c.f.v, .bool m.c.f.d, .bool m.c.f.i, .bool m.c.f.z, .bool m.c.f.c] 28)).alloc (.cells #[.int .u8 0, .int .u8 0, .int .u8 0, .int .u8 0, .int .u16 0, .bool false, .bool false, .bool false, .bool false, .bool false, .bool false] 28) = wa at *
  refine (sStack_c m.c.s (by omega) (by omega) _).mono ?_
  rintro e w1 ⟨rfl, rfl⟩
  go_wp2_with fail
  rw [show 256 + m.c.s % 256 = 256 + m.c.s by omega, show pc / 256 % 256 = pc / 256 by omega]
  refine (sWrite_c H0.out.from_ (256 + m.c.s) (pc / 256) (by omega) (by omega)).mono ?_
  rintro e w1 ⟨rfl, h1⟩
  rw [show u16 (256 + m.c.s) = 256 + m.c.s by unfold u16; omega] at h1
  have k0 := h1.fr.2 _ _ _ K0.out (by omega) (by omega) (by decide)
  have k1 := h1.fr.2 _ _ _ K1.out (by omega) (by omega) (by decide)
  have H1 := Lib.hid (H0.out.trans_ h1)
  clear h1 H0 K0 K1 e1
  generalize hm1 : m.write (256 + m.c.s) (pc / 256) = m1 at *
  have hl1 : m1.cy.length < 900001 := by rw [← hm1]; simp [Ms.write]; omega
  have HM1 := Lib.hid hm1
  clear hm1
  go_wp2_with fail
  refine (sStack_c (m.c.s - 1) (by omega) (by omega) _).mono ?_
  rintro e w2 ⟨rfl, rfl⟩
  go_wp2_with fail
  refine (sWrite_c H1.out.from_ (256 + (m.c.s - 1) % 256) (pc % 256) (by omega) (by omega)).mono ?_
  rintro e w2 ⟨rfl, h2⟩
  rw [u16_stk] at h2
  have k2 := h2.fr.2 _ _ _ k0 (by omega) (by omega) (by decide)
  have k3 := h2.fr.2 _ _ _ k1 (by omega) (by omega) (by decide)
  have H2 := Lib.hid (H1.out.trans_ h2)
  clear h2 H1 k0 k1 e2
  generalize hm2 : m1.write (256 + (m.c.s - 1) % 256) (pc % 256) = m2 at *
  have hl2 : m2.cy.length < 900002 := by rw [← hm2]; simp [Ms.write]; omega
  have HM2 := Lib.hid hm2
  clear hm2
  have c2 := k2.cell
  have e3 : IntKind.i64.wrap (m.c.s - 2) = m.c.s - 2 := wrap64_in _ (by omega) (by omega)
  go_wp2_with fail
  go_region_held3 (fun w' => w'.cell? ⟨w.heap.size, 5, none⟩ = some (.bool m.c.f.n) ∧ w'.cell? ⟨w.heap.size, 6, none⟩ = some (.bool m.c.f.v) ∧ w'.cell? ⟨w.heap.size, 7, none⟩ = some (.bool m.c.f.d) ∧ w'.cell? ⟨w.heap.size, 8, none⟩ = some (.bool m.c.f.i) ∧ w'.cell? ⟨w.heap.size, 9, none⟩ = some (.bool m.c.f.z) ∧ w'.cell? ⟨w.heap.size, 10, none⟩ = some (.bool m.c.f.c)) (first | exact ⟨k2.cell 5, k2.cell 6, k2.cell 7, k2.cell 8, k2.cell 9, k2.cell 10⟩ | exact ⟨k4.cell 5, k4.cell 6, k4.cell 7, k4.cell 8, k4.cell 9, k4.cell 10⟩ | exact ⟨k6.cell 5, k6.cell 6, k6.cell 7, k6.cell 8, k6.cell 9, k6.cell 10⟩) (first | (go_at_call 49; refine (sStack_c (m.c.s - 2) (by omega) (by omega) _).mono ?_; rintro e w3 ⟨rfl, rfl⟩) | (go_at_call 50; refine (sPackP_c m.c.f brk _).mono ?_; rintro e w4 ⟨rfl, hb4⟩; have k4 := k2.drew.later hb4; have k5 := k3.drew.later hb4; have H4 := Lib.hid (H2.out.drew.later hb4)) | (go_at_call 48; refine (sWrite_c H4.out.from_ (256 + (m.c.s - 2) % 256) (packF m.c.f brk) hp (by omega)).mono ?_; rintro e w6 ⟨rfl, h6⟩; have k6 := h6.fr.2 _ _ _ k4 (by omega) (by omega) (by decide); have k7 := h6.fr.2 _ _ _ k5 (by omega) (by omega) (by decide); have H6 := Lib.hid (H4.out.trans_ h6); clear h6))
  rename_i hHeld
  clear hHeld c2 e3 k2 k3 k4 k5 hb4 H2 H4
  rw [u16_stk] at H6
  generalize hm3 : m2.write (256 + (m.c.s - 2) % 256) (packF m.c.f brk) = m3 at *
  have hl3 : m3.cy.length < 900003 := by rw [← hm3]; simp [Ms.write]; omega
  have HM3 := Lib.hid hm3
  clear hm3
  have hv1 : u16 v = v := by unfold u16; omega
  have hv2 : u16 (v + 1) = v + 1 := by unfold u16; omega
  go_wp2_with fail
  refine (sRead_c H6.out.from_ v (by omega)).mono ?_
  rintro e w7 ⟨rfl, h7⟩
  rw [hv1] at h7 ⊢
  have k8 := h7.fr.2 _ _ _ k6 (by omega) (by omega) (by decide)
  have k9 := h7.fr.2 _ _ _ k7 (by omega) (by omega) (by decide)
  have H7 := Lib.hid (H6.out.trans_ h7)
  have hb3 : Byt m3.ram := H6.out.byt
  clear h7 k6 k7 H6
  go_wp2_with fail
  refine (sRead_c H7.out.from_ (v + 1) (by simp [Ms.read]; omega)).mono ?_
  rintro e w8 ⟨rfl, h8⟩
  rw [hv2] at h8 ⊢
  have q0 := h8.fr.2 _ _ _ k8 (by omega) (by omega) (by decide)
  have q1 := h8.fr.2 _ _ _ k9 (by omega) (by omega) (by decide)
  have H8 := Lib.hid (H7.out.trans_ h8)
  clear h8 k8 k9 H7
  have hx := Ms.look_ok hb3 v
  have hy := Ms.look_ok hb3 (v + 1)
  rw [show (m3.read v).look (v + 1) = m3.look (v + 1) from rfl]
  go_wp2_with fail
  refine (sWord_c (m3.look v) (m3.look (v + 1)) ⟨hx, hy⟩ _).mono ?_
  rintro e w9 ⟨rfl, rfl⟩
  have z0 := q0.cell
  have z1 := q1.cell
  have y0 := q0.frozen
  have y1 := q1.frozen
  generalize hxe : m3.look v = x at *
  generalize hye : m3.look (v + 1) = y at *
  have HL := Lib.hid (BuL.of H8.out q0 q1 (by decide) (by omega) (by omega) (by omega) (by omega))
  have hq : vecF (m.push [pc / 256, u8 pc, packF m.c.f brk]) v (v + 1) = { (m3.read v).read (v + 1) with c := ⟨m.c.a, m.c.x, m.c.y, (m.c.s - 3) % 256, y * 256 + x, { m.c.f with i := true }⟩ } := by
    have e : (m.push [pc / 256, u8 pc, packF m.c.f brk]) = { m3 with c := { m.c with s := (m.c.s - 3) % 256 } } := by
      rw [push3, ← HM3.out, ← HM2.out, ← HM1.out]
      rfl
    rw [e]
    show _ = _
    rw [← hxe, ← hye]
    rfl
  have HQ := Lib.hid hq
  clear hq hxe hye q0 q1 H8 HM1 HM2 HM3
  go_wp2
  refine bodyPost_ret (v := .agg #[.int .u8 m.c.a, .int .u8 m.c.x, .int .u8 m.c.y, .int .u8 ((m.c.s - 3) % 256), .int .u16 (y * 256 + x), .bool m.c.f.n, .bool m.c.f.v, .bool m.c.f.d, .bool true, .bool m.c.f.z, .bool m.c.f.c]) (by simp [results, Tryz.results25, go_sem, z0, z1]) rfl ⟨_, rfl, by rw [HQ.out], by rw [HQ.out]; unfold Cp.ok at hok ⊢; simp only; omega, ?_⟩
  rw [HQ.out]
  refine Bu.c_ ?_ _
  refine (?_ : BuL B w0 b g _ [(w.heap.size, 28), (w.heap.size + 1, 28)] _).1
  repeat first | exact HL.out | refine BuL.put ?_ (t := 28) (by simp) _ _
end Go.Proofs.YtemahcjglmhefaaGreatDoor
