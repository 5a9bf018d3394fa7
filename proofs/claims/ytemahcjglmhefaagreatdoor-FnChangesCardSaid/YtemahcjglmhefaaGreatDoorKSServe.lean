/- The reference's Serve. No condition. -/
import Derived.Test.YtemahcjglmhefaaGreatDoorKSBus
import Derived.Test.YtemahcjglmhefaaGreatDoorKFill
import Derived.Test.YtemahcjglmhefaaGreatDoorKServe
namespace Go.Proofs.YtemahcjglmhefaaGreatDoor
set_option linter.unusedVariables false
set_option linter.unusedSimpArgs false
open Go.RowKit
attribute [local irreducible] World.setCell
theorem Bk.far11 {w : World} {q : Nat} {t : TypeId} {cs : Array Value} (h : Bk w q t cs) {k : Nat} (hk : q ≠ k) (a0 a1 a2 a3 a4 a5 a6 a7 a8 a9 a10 : Value) : Bk (((((((((((w.setCell ⟨k, 0, none⟩ a0).setCell ⟨k, 1, none⟩ a1).setCell ⟨k, 2, none⟩ a2).setCell ⟨k, 3, none⟩ a3).setCell ⟨k, 4, none⟩ a4).setCell ⟨k, 5, none⟩ a5).setCell ⟨k, 6, none⟩ a6).setCell ⟨k, 7, none⟩ a7).setCell ⟨k, 8, none⟩ a8).setCell ⟨k, 9, none⟩ a9).setCell ⟨k, 10, none⟩ a10) q t cs :=
  ((((((((((h.far (p := ⟨k, 0, none⟩) hk a0).far (p := ⟨k, 1, none⟩) hk a1).far (p := ⟨k, 2, none⟩) hk a2).far (p := ⟨k, 3, none⟩) hk a3).far (p := ⟨k, 4, none⟩) hk a4).far (p := ⟨k, 5, none⟩) hk a5).far (p := ⟨k, 6, none⟩) hk a6).far (p := ⟨k, 7, none⟩) hk a7).far (p := ⟨k, 8, none⟩) hk a8).far (p := ⟨k, 9, none⟩) hk a9).far (p := ⟨k, 10, none⟩) hk a10
theorem Bk.put11 {w : World} {k : Nat} {t : TypeId} {b0 b1 b2 b3 b4 b5 b6 b7 b8 b9 b10 : Value} (h : Bk w k t #[b0, b1, b2, b3, b4, b5, b6, b7, b8, b9, b10]) (a0 a1 a2 a3 a4 a5 a6 a7 a8 a9 a10 : Value) : Bk (((((((((((w.setCell ⟨k, 0, none⟩ a0).setCell ⟨k, 1, none⟩ a1).setCell ⟨k, 2, none⟩ a2).setCell ⟨k, 3, none⟩ a3).setCell ⟨k, 4, none⟩ a4).setCell ⟨k, 5, none⟩ a5).setCell ⟨k, 6, none⟩ a6).setCell ⟨k, 7, none⟩ a7).setCell ⟨k, 8, none⟩ a8).setCell ⟨k, 9, none⟩ a9).setCell ⟨k, 10, none⟩ a10) k t #[a0, a1, a2, a3, a4, a5, a6, a7, a8, a9, a10] :=
  by have := ((((((((((h.put 0 a0).put 1 a1).put 2 a2).put 3 a3).put 4 a4).put 5 a5).put 6 a6).put 7 a7).put 8 a8).put 9 a9).put 10 a10; simpa using this
theorem Bu.start {w w2 : World} {g cap : Nat} (c : Cp) {xs : List Int} (hG : Gl w) (hb : Below w.heap.size w w2) (hs : okSize xs.length) (hx : Byt xs)
    (ho : w2.ownsRow w.heap.size 5 1 (.slice (some ⟨g, 0, none⟩) xs.length cap) xs.length (nums .u8 xs)) :
    Bu w.heap.size w w2.heap.size g ⟨c, xs, []⟩ (w2.alloc (.cells #[.slice (some ⟨g, 0, none⟩) xs.length cap, .slice none 0 0] 61)) :=
  ⟨hG.sz, hG, hb.size, hb.alloc hb.size _, by simp; have := hb.size; omega, Fr.later (hb.alloc hb.size _), hs, hx, cap, .slice none 0 0, Bk.new _ _ _, ho.alloc _, World.ownsRow_nil _ _ _ _⟩
set_option maxHeartbeats 2000000 in
set_option maxRecDepth 100000 in
theorem sServe_c (c : Cp) (ad : Addr) (n cap : Nat) (xs : List Int) (hc : c.ok) (hs : okSize n) (hx : Byt xs) (w : World) (hr : Rds w .u8 (some ad) n xs) (hG : Gl w) (nmi : Bool) :
    Calls Tryz.prog 8 #[.agg #[.int .u8 c.a, .int .u8 c.x, .int .u8 c.y, .int .u8 c.s, .int .u16 c.pc, .bool c.f.n, .bool c.f.v, .bool c.f.d, .bool c.f.i, .bool c.f.z, .bool c.f.c], .agg #[.slice (some ad) n cap], .bool nmi] w (Out w (serveF ⟨c, xs, []⟩ nmi)) := by
  have HS := Lib.hid ((okSizeB_iff n).2 hs)
  have hn : 0 < n ∧ n ≤ 4096 := by unfold okSize at hs; omega
  have hxs := hr.1
  subst hxs
  have HR := Lib.hid hr
  have hpc : 0 ≤ c.pc ∧ c.pc < 65536 := by unfold Cp.ok at hc; omega
  clear hr
  have hV : ∃ v : Int, (0 ≤ v ∧ v < 65535) ∧ serveF ⟨c, xs, []⟩ nmi = vecF ((((⟨c, xs, []⟩ : Ms).read c.pc).read c.pc).push [c.pc / 256, u8 c.pc, packF c.f false]) v (v + 1) ∧ v = (if nmi then 65530 else 65534) := by
    cases nmi
    · exact ⟨65534, by omega, rfl, rfl⟩
    · exact ⟨65530, by omega, rfl, rfl⟩
  obtain ⟨v, hv, hF, hvd⟩ := hV
  rw [hF]
  clear hF
  have hvt : nmi = true → v = 65530 := fun e => by rw [hvd, e]; rfl
  have hvf : nmi = false → v = 65534 := fun e => by rw [hvd, e]; rfl
  clear hvd
  go_enter Tryz.func8, Tryz.ntmps8
  go_wp2_with fail
  refine (sRamOk_c _ _ _ (by omega) _).mono ?_
  rintro e w1 ⟨rfl, hb1⟩
  rw [HS.out]
  have hB1 : Below w.heap.size w w1 := Dn.trans (Dn.al w _) (Dn.trans (Dn.al _ _) (Dn.trans (Dn.al _ _) (Dn.trans (Dn.al _ _) hb1)))
  have k0 := ((((Bk.new w 28 #[.int .u8 c.a, .int .u8 c.x, .int .u8 c.y, .int .u8 c.s, .int .u16 c.pc, .bool c.f.n, .bool c.f.v, .bool c.f.d, .bool c.f.i, .bool c.f.z, .bool c.f.c]).al (.cells #[.slice (some ad) xs.length cap] 30)).al (.cells #[.int .u8 0, .int .u8 0, .int .u8 0, .int .u8 0, .int .u16 0, .bool false, .bool false, .bool false, .bool false, .bool false, .bool false] 28)).al (.cells #[.slice none 0 0] 30)).later hb1
  have k1 := (((Bk.new1 w (.cells #[.int .u8 c.a, .int .u8 c.x, .int .u8 c.y, .int .u8 c.s, .int .u16 c.pc, .bool c.f.n, .bool c.f.v, .bool c.f.d, .bool c.f.i, .bool c.f.z, .bool c.f.c] 28) 30 #[.slice (some ad) xs.length cap]).al (.cells #[.int .u8 0, .int .u8 0, .int .u8 0, .int .u8 0, .int .u16 0, .bool false, .bool false, .bool false, .bool false, .bool false, .bool false] 28)).al (.cells #[.slice none 0 0] 30)).later hb1
  have k2 := ((Bk.newK (W := (w.alloc (.cells #[.int .u8 c.a, .int .u8 c.x, .int .u8 c.y, .int .u8 c.s, .int .u16 c.pc, .bool c.f.n, .bool c.f.v, .bool c.f.d, .bool c.f.i, .bool c.f.z, .bool c.f.c] 28)).alloc (.cells #[.slice (some ad) xs.length cap] 30)) (k := w.heap.size + 1 + 1) (by simp) 28 #[.int .u8 0, .int .u8 0, .int .u8 0, .int .u8 0, .int .u16 0, .bool false, .bool false, .bool false, .bool false, .bool false, .bool false]).al (.cells #[.slice none 0 0] 30)).later hb1
  have k3 := (Bk.newK (W := ((w.alloc (.cells #[.int .u8 c.a, .int .u8 c.x, .int .u8 c.y, .int .u8 c.s, .int .u16 c.pc, .bool c.f.n, .bool c.f.v, .bool c.f.d, .bool c.f.i, .bool c.f.z, .bool c.f.c] 28)).alloc (.cells #[.slice (some ad) xs.length cap] 30)).alloc (.cells #[.int .u8 0, .int .u8 0, .int .u8 0, .int .u8 0, .int .u16 0, .bool false, .bool false, .bool false, .bool false, .bool false, .bool false] 28)) (k := w.heap.size + 1 + 1 + 1) (by simp) 30 #[.slice none 0 0]).later hb1
  have hl3 := k3.lt
  have c1 : ∀ o, (w1.alloc o).cell? ⟨w.heap.size + 1, 0, none⟩ = some (.slice (some ad) xs.length cap) := fun o => (World.cell?_alloc_lt w1 o _ k1.lt).trans (k1.cell 0)
  obtain ⟨hlen, _, hcc⟩ := HR.out.later hB1
  obtain ⟨ad', e, hcc⟩ := hcc hn.1
  cases e
  have hlt : ad.block < w1.heap.size := by
    have := World.block_lt_of_cell? w1 _ (hcc 0 hn.1)
    simpa [Addr.add] using this
  have hnews : ∀ o j u, (nums .u8 xs)[j]? = some u → (w1.alloc o).cell? (ad.add j) = some u := by
    intro o j u hu
    obtain ⟨hj, rfl⟩ := nums_get hu
    rw [World.cell?_alloc_lt w1 _ _ (by rw [add_block]; exact hlt)]
    exact hcc j (by omega)
  have b1 : 0 + xs.length ≤ maxLen := by unfold maxLen; omega
  have b2 : (0 + xs.length) * 1 ≤ 140737488355328 := by omega
  obtain ⟨i0, hi, hz0, hz1, hz2⟩ := info_parts info8
  clear hb1 hcc
  go_wp2_with (at_builtin; refine wpList_append_own _ rfl (.tmp 17) (.tmp 19) 22 rfl w.heap.size 5 i0 _ 1 1 Tryz.underlying22 hi hz0 hz1 hz2 rfl (by decide) (.slice (some ⟨w1.heap.size, 0, none⟩) 0 0) 0 [] rfl (World.ownsRow_made w1 #[] 0 hB1.size (by decide) rfl) ad xs.length cap (nums .u8 xs) rfl (by rw [nums_length]; omega) (hnews _) nums_one b1 b2 (by simp; have := hB1.size; omega) ?c3)
  case c3 =>
    intro v' w2 hown hgr _
    obtain ⟨g, cap2, hv', _⟩ := hown.form hn.1
    subst hv'
    have hB2 : Below w.heap.size w w2 := hB1.trans (((Below.refl _ _).alloc hB1.size _).grown hgr (Nat.le_trans hB1.size (Dn.al w1 _).size) (fun k hk => by simp [Value.ownBlock] at hk; have := hB1.size; omega))
    have hsz := hgr.size
    simp at hsz
    have q0 := ((k0.al _).grown hgr (by simp [Value.ownBlock]; omega)).al (.cells #[.slice (some ⟨g, 0, none⟩) xs.length cap2, .slice none 0 0] 61)
    have q2 := ((k2.al _).grown hgr (by simp [Value.ownBlock]; omega)).al (.cells #[.slice (some ⟨g, 0, none⟩) xs.length cap2, .slice none 0 0] 61)
    have q3 := ((k3.al _).grown hgr (by simp [Value.ownBlock]; omega)).al (.cells #[.slice (some ⟨g, 0, none⟩) xs.length cap2, .slice none 0 0] 61)
    have h0 := Bu.start c hG hB2 hs hx (by simpa using hown)
    have hown2 := hown.alloc (.cells #[.slice (some ⟨g, 0, none⟩) xs.length cap2, .slice none 0 0] 61)
    have n0 : w.heap.size ≠ g := fun e => own_apart hown2 q0 (by decide) (by simp [Value.ownBlock, e])
    have n2 : w.heap.size + 1 + 1 ≠ g := fun e => own_apart hown2 q2 (by decide) (by simp [Value.ownBlock, e])
    have n3 : w.heap.size + 1 + 1 + 1 ≠ g := fun e => own_apart hown2 q3 (by decide) (by simp [Value.ownBlock, e])
    have hpc2 : u16 c.pc = c.pc := by unfold u16; omega
    have hcp := q0.cell 4
    clear hown hown2 hgr k0 k1 k2 k3 c1 hnews b1 b2 hi hz0 hz1 hz2 hB1 hB2 hlt hlen
    have hb3 : w.heap.size + 1 + 1 + 1 < w2.heap.size := by omega
    go_wp2_with fail
    generalize w2.alloc (.cells #[.slice (some ⟨g, 0, none⟩) xs.length cap2, .slice none 0 0] 61) = w3 at *
    generalize w2.heap.size = b at *
    refine (sRead_c h0.from_ c.pc (by simp)).mono ?_
    rintro e w4 ⟨rfl, h4⟩
    rw [hpc2] at h4 ⊢
    have p0 := h4.fr.2 _ _ _ q0 (by omega) n0 (by decide)
    have p2 := h4.fr.2 _ _ _ q2 (by omega) n2 (by decide)
    have p3 := h4.fr.2 _ _ _ q3 (by omega) n3 (by decide)
    have H4 := Lib.hid (h0.trans_ h4)
    have hcp := p0.cell 4
    clear h0 h4 q0 q2 q3
    go_wp2_with fail
    refine (sRead_c H4.out.from_ c.pc (by simp [Ms.read])).mono ?_
    rintro e w5 ⟨rfl, h5⟩
    rw [hpc2] at h5 ⊢
    have q0 := h5.fr.2 _ _ _ p0 (by omega) n0 (by decide)
    have q2 := h5.fr.2 _ _ _ p2 (by omega) n2 (by decide)
    have q3 := h5.fr.2 _ _ _ p3 (by omega) n3 (by decide)
    have H5 := Lib.hid (H4.out.trans_ h5)
    have c0 := q0.cell
    clear h5 p0 p2 p3 H4 hcp
    have hbig := sPush_c (m := ((⟨c, xs, []⟩ : Ms).read c.pc).read c.pc) H5.out.from_ hc c.pc hpc false v hv (by simp [Ms.read])
    have HBIG := Lib.hid hbig
    clear hbig
    cases nmi
    all_goals
      first | rw [hvt rfl] at HBIG | rw [hvf rfl] at HBIG
      go_wp2_with fail
      refine HBIG.out.mono ?_
      rintro e w6 ⟨q, hq, rfl, hqok, h6⟩
      have k0 := h6.fr.2 _ _ _ q0 (by omega) n0 (by decide)
      have k2 := h6.fr.2 _ _ _ q2 (by omega) n2 (by decide)
      have k3 := h6.fr.2 _ _ _ q3 (by omega) n3 (by decide)
      have h7 := H5.out.trans_ h6
      have HQ := Lib.hid hq
      have c6 := k0.cell
      have f6 := k0.frozen
      have r0 := k0.put11 (.int .u8 q.c.a) (.int .u8 q.c.x) (.int .u8 q.c.y) (.int .u8 q.c.s) (.int .u16 q.c.pc) (.bool q.c.f.n) (.bool q.c.f.v) (.bool q.c.f.d) (.bool q.c.f.i) (.bool q.c.f.z) (.bool q.c.f.c)
      have r2 := k2.far11 (k := w.heap.size) (by omega) (.int .u8 q.c.a) (.int .u8 q.c.x) (.int .u8 q.c.y) (.int .u8 q.c.s) (.int .u16 q.c.pc) (.bool q.c.f.n) (.bool q.c.f.v) (.bool q.c.f.d) (.bool q.c.f.i) (.bool q.c.f.z) (.bool q.c.f.c)
      have r3 := k3.far11 (k := w.heap.size) (by omega) (.int .u8 q.c.a) (.int .u8 q.c.x) (.int .u8 q.c.y) (.int .u8 q.c.s) (.int .u16 q.c.pc) (.bool q.c.f.n) (.bool q.c.f.v) (.bool q.c.f.d) (.bool q.c.f.i) (.bool q.c.f.z) (.bool q.c.f.c)
      have hL : BuL w.heap.size w b g q [(w.heap.size, 28)] ((((((((((((w6.setCell ⟨w.heap.size, 0, none⟩ (.int .u8 q.c.a)).setCell ⟨w.heap.size, 1, none⟩ (.int .u8 q.c.x)).setCell ⟨w.heap.size, 2, none⟩ (.int .u8 q.c.y)).setCell ⟨w.heap.size, 3, none⟩ (.int .u8 q.c.s)).setCell ⟨w.heap.size, 4, none⟩ (.int .u16 q.c.pc)).setCell ⟨w.heap.size, 5, none⟩ (.bool q.c.f.n)).setCell ⟨w.heap.size, 6, none⟩ (.bool q.c.f.v)).setCell ⟨w.heap.size, 7, none⟩ (.bool q.c.f.d)).setCell ⟨w.heap.size, 8, none⟩ (.bool q.c.f.i)).setCell ⟨w.heap.size, 9, none⟩ (.bool q.c.f.z)).setCell ⟨w.heap.size, 10, none⟩ (.bool q.c.f.c))) := by
        have hL0 : BuL w.heap.size w b g q [(w.heap.size, 28)] w6 := ⟨h7, fun p hp => by simp at hp; subst hp; exact ⟨⟨_, k0⟩, Nat.le_refl _, Nat.le_refl _, by simp only; omega, n0, (by decide : (28 : TypeId) ≠ 44)⟩⟩
        repeat first | exact hL0 | refine BuL.put ?_ (t := 28) (by simp) _ _
      have h8 := hL.1
      clear hL h7 h6 hq q0 q2 q3 c0 k0 k2 k3
      go_wp2_with fail
      generalize (((((((((((w6.setCell ⟨w.heap.size, 0, none⟩ (.int .u8 q.c.a)).setCell ⟨w.heap.size, 1, none⟩ (.int .u8 q.c.x)).setCell ⟨w.heap.size, 2, none⟩ (.int .u8 q.c.y)).setCell ⟨w.heap.size, 3, none⟩ (.int .u8 q.c.s)).setCell ⟨w.heap.size, 4, none⟩ (.int .u16 q.c.pc)).setCell ⟨w.heap.size, 5, none⟩ (.bool q.c.f.n)).setCell ⟨w.heap.size, 6, none⟩ (.bool q.c.f.v)).setCell ⟨w.heap.size, 7, none⟩ (.bool q.c.f.d)).setCell ⟨w.heap.size, 8, none⟩ (.bool q.c.f.i)).setCell ⟨w.heap.size, 9, none⟩ (.bool q.c.f.z)).setCell ⟨w.heap.size, 10, none⟩ (.bool q.c.f.c)) = w7 at *
      clear c6 f6
      obtain ⟨cap6, cv6, zc, zf, zr, zy⟩ := h8.open_
      have z0 := r0.cell
      have z2 := r2.cell
      have z3 := r3.cell 0
      have zf2 := r2.frozen
      have zf3 := r3.frozen 0
      have hne2 : b ≠ w.heap.size + 1 + 1 := by omega
      have hne3 : b ≠ w.heap.size + 1 + 1 + 1 := by omega
      have hb2 : w.heap.size + 1 + 1 ≠ b := by omega
      have hb3 : w.heap.size + 1 + 1 + 1 ≠ b := by omega
      go_region_held3 (fun w' => (∀ i, w'.cell? ⟨b, i, none⟩ = (#[.slice (some ⟨g, 0, none⟩) q.ram.length cap6, cv6] : Array Value)[i]?) ∧ ∀ i, w'.cell? ⟨w.heap.size, i, none⟩ = (#[.int .u8 q.c.a, .int .u8 q.c.x, .int .u8 q.c.y, .int .u8 q.c.s, .int .u16 q.c.pc, .bool q.c.f.n, .bool q.c.f.v, .bool q.c.f.d, .bool q.c.f.i, .bool q.c.f.z, .bool q.c.f.c] : Array Value)[i]?) (first | exact ⟨zc, z0⟩ | exact ⟨fun i => by simp [World.cell?_setCell_other, hb2, hb3, hne2, hne3, zc], fun i => by simp [World.cell?_setCell_other, z0]⟩) (fail)
      rename_i hHeld
      clear hHeld
      have g2 : some (w.heap.size + 1 + 1) ≠ (Value.slice (some ⟨g, 0, none⟩) q.ram.length cap6).ownBlock := by simp [Value.ownBlock]; omega
      have g3 : some (w.heap.size + 1 + 1 + 1) ≠ (Value.slice (some ⟨g, 0, none⟩) q.ram.length cap6).ownBlock := by simp [Value.ownBlock]; omega
      have y2 := own_apart zy r2 (by decide)
      have y3 := own_apart zy r3 (by decide)
      have HBE := Lib.hid h8.bel
      have HBY := Lib.hid h8.byt
      have HSK := Lib.hid h8.sok
      clear h8 zc zf r2 r3 r0 z0
      go_wp2
      refine bodyPost_ret (v := .tuple #[.agg #[.int .u8 q.c.a, .int .u8 q.c.x, .int .u8 q.c.y, .int .u8 q.c.s, .int .u16 q.c.pc, .bool q.c.f.n, .bool q.c.f.v, .bool q.c.f.d, .bool q.c.f.i, .bool q.c.f.z, .bool q.c.f.c], .agg #[.slice (some ⟨g, 0, none⟩) q.ram.length cap6], cv6]) (by simp [results, Tryz.results8, go_sem, z2, z3]) rfl ?_
      have hq2 : vecF ((((⟨c, xs, []⟩ : Ms).read c.pc).read c.pc).push [c.pc / 256, u8 c.pc, packF c.f false]) v (v + 1) = q := by
        first | rw [hvt (by first | rfl | trivial)] | rw [hvf (by first | rfl | trivial)]
        exact HQ.out.symm
      rw [hq2]
      exact ⟨g, cap6, cv6, rfl, own_far (p := ⟨w.heap.size + 1 + 1 + 1, 0, none⟩) (own_far11 zr g2 _ _ _ _ _ _ _ _ _ _ _) g3 _, own_far (p := ⟨w.heap.size + 1 + 1 + 1, 0, none⟩) (own_far11 zy y2 _ _ _ _ _ _ _ _ _ _ _) y3 _, ((below11 HBE.out (by omega) _ _ _ _ _ _ _ _ _ _ _).setCell (p := ⟨w.heap.size + 1 + 1 + 1, 0, none⟩) (by simp; omega) _).drew, hqok, HBY.out, HSK.out⟩
end Go.Proofs.YtemahcjglmhefaaGreatDoor
