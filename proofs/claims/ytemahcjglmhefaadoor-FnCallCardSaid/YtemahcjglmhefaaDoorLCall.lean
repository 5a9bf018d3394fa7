/- FnCall's walk. No condition. -/
import Derived.Test.YtemahcjglmhefaaDoorCur7
import Derived.Test.YtemahcjglmhefaaDoorPCall
import Derived.Test.YtemahcjglmhefaaDoorPoke
namespace Go.Proofs.YtemahcjglmhefaaDoor
open Go.RowKit
attribute [local irreducible] World.setCell
theorem big_c (A : Option Addr) (n cap : Nat) (w : World) : Calls Tryd.prog 5 #[.slice A n cap] w fun e w' => e = .returned (.bool (decide ((1048576 : Int) < n))) ∧ w = w' := by
  go_enter Tryd.func5, Tryd.ntmps5
  go_wp2
  go_returns
  exact ⟨rfl, rfl⟩
theorem at_law (A : Option Addr) (n cap : Nat) (xs : List Int) (w : World) (hr : Rds w .u8 A n xs) (hb : Byt xs) (hn : n ≤ 1048576) (i : Int) (h0 : 0 ≤ i) (h1 : i < 1048576) :
    Calls Tryd.prog 8 #[.slice A n cap, .int .i64 i] w fun e w' => ∃ x : Int, (0 ≤ x ∧ x < 256) ∧ e = .returned (.int .i64 x) ∧ w = w' := by
  by_cases hlt : i < n
  · obtain ⟨ad, rfl, hc⟩ := hr.at_ i h0 hlt
    have hx := hb.rd i
    generalize rd xs i = x at *
    clear hr
    go_enter Tryd.func8, Tryd.ntmps8
    go_wp2
    go_returns
    exact ⟨x, hx, rfl, rfl⟩
  · clear hr
    go_enter Tryd.func8, Tryd.ntmps8
    go_wp2
    go_returns
    exact ⟨_, by omega, rfl, rfl⟩
set_option maxHeartbeats 4000000 in
set_option maxRecDepth 100000 in
theorem FnCall_c (A : Option Addr) (n cap : Nat) (xs : List Int) (w : World) (hr : Rds w .u8 A n xs) (hb : Byt xs) (hG : Gl w) :
    Calls Tryd.prog 3 #[.slice A n cap] w fun e w' => e = .returned (.bool true) ∧ Below w.heap.size w w' := by
  have HR := Lib.hid hr
  clear hr
  by_cases hn : 1048576 < n
  · have hd : decide ((1048576 : Int) < (n : Int)) = true := by simp; omega
    go_enter Tryd.func3, Tryd.ntmps3
    go_wp2_with fail
    refine (big_c A n cap _).mono ?_
    rintro e w1 ⟨rfl, rfl⟩
    rw [hd]
    go_wp2
    go_returns
    exact ⟨rfl, Below.refl _ _⟩
  · have hd : decide ((1048576 : Int) < (n : Int)) = false := by simp; omega
    have HN := Lib.hid (show n ≤ 1048576 by omega)
    clear hn
    go_enter Tryd.func3, Tryd.ntmps3
    go_wp2_with fail
    refine (big_c A n cap _).mono ?_
    rintro e w1 ⟨rfl, rfl⟩
    rw [hd]
    clear hd
    go_wp2_with fail
    refine (DrawStep_c A n cap xs _ HR.out hb HN.out).mono ?_
    rintro e w1 ⟨c, v, ys, hok, rfl, hl, hby, hown, hB1⟩
    obtain ⟨vA, vc, rfl⟩ := own_shape hown
    have ha : Below w1.heap.size w1 ((w1.alloc (.cells #[.int .u8 c.a, .int .u8 c.x, .int .u8 c.y, .int .u8 c.s, .int .u16 c.pc, .bool c.f.n, .bool c.f.v, .bool c.f.d, .bool c.f.i, .bool c.f.z, .bool c.f.c] 28)).alloc (.cells #[.slice vA ys.length vc] 30)) := Dn.trans (Dn.al w1 _) (Dn.al _ _)
    go_wp2_with fail
    refine (sRamOk_c vA ys.length vc (by omega) _).mono ?_
    rintro e w2 ⟨rfl, hb2⟩
    have kp := ((Bk.new w1 28 #[.int .u8 c.a, .int .u8 c.x, .int .u8 c.y, .int .u8 c.s, .int .u16 c.pc, .bool c.f.n, .bool c.f.v, .bool c.f.d, .bool c.f.i, .bool c.f.z, .bool c.f.c]).al (.cells #[.slice vA ys.length vc] 30)).later hb2
    have kr := (Bk.new1 w1 (.cells #[.int .u8 c.a, .int .u8 c.x, .int .u8 c.y, .int .u8 c.s, .int .u16 c.pc, .bool c.f.n, .bool c.f.v, .bool c.f.d, .bool c.f.i, .bool c.f.z, .bool c.f.c] 28) 30 #[.slice vA ys.length vc]).later hb2
    have HW := Lib.hid (own_later (own_later hown ha) hb2)
    have HB := Lib.hid (Dn.trans hB1 (Dn.trans ha hb2))
    have hsz : w.heap.size ≤ w1.heap.size := hB1.size
    clear hown hB1 ha hb2
    generalize w1.heap.size = pb at *
    cases hs : okSizeB ys.length
    · go_wp2
      go_returns
      exact ⟨rfl, HB.out⟩
    · by_cases hlt : ys.length < 1024
      · have cr := kr.cell 0
        go_wp2
        go_returns
        exact ⟨rfl, HB.out⟩
      · have cr := kr.cell 0
        have cp := kp.cell
        have fp := kp.frozen
        have HS := Lib.hid ((okSizeB_iff ys.length).1 hs)
        clear hs
        obtain ⟨g, vc', e, _⟩ := HW.out.form (by omega)
        cases e
        go_wp2_with fail
        have hgp := own_apart HW.out kp (by decide)
        have kp1 : Bk (w2.setCell ⟨pb, 4, none⟩ (.int .u16 700)) pb 28 #[.int .u8 c.a, .int .u8 c.x, .int .u8 c.y, .int .u8 c.s, .int .u16 700, .bool c.f.n, .bool c.f.v, .bool c.f.d, .bool c.f.i, .bool c.f.z, .bool c.f.c] := kp.put 4 _
        have kr1 := kr.far (p := ⟨pb, 4, none⟩) (by simp) (.int .u16 700)
        have HW1 := Lib.hid (own_far (p := ⟨pb, 4, none⟩) HW.out hgp (.int .u16 700))
        have HB1 := Lib.hid (HB.out.setCell (p := ⟨pb, 4, none⟩) hsz (.int .u16 700))
        clear HW HB kp kr cr cp fp hgp
        generalize w2.setCell ⟨pb, 4, none⟩ (.int .u16 700) = w3 at *
        refine (at_law A n cap xs _ (HR.out.later HB1.out) hb HN.out 2 (by omega) (by omega)).mono ?_
        rintro e w4 ⟨x, hx, rfl, rfl⟩
        have cp := kp1.cell
        have cr := kr1.cell 0
        have fr := kr1.frozen 0
        go_wp2_with fail
        have ht : 900 ≤ 900 + x % 100 ∧ 900 + x % 100 < 1000 := by omega
        rw [show bits BinOp.and .i64 (900 + x % 100) 255 % 256 = (900 + x % 100) % 256 by rw [and255]; omega]
        generalize 900 + x % 100 = t at *
        refine (Fill_c ⟨g, 0, none⟩ vc ys HS.out 700 (by omega) (by omega) (some ⟨w3.heap.size, 0, none⟩) 3 [32, t % 256, t / 256] (by simp) _ (own_rd (HW1.out.alloc _)) (rds_new w3 [32, t % 256, t / 256] (by simp) .u8 5)).mono ?_
        rintro e w5 ⟨g2, cap2, rfl, hown5, hb5⟩
        have hlen1 : (fillF ys 700 [32, t % 256, t / 256]).length = ys.length := fillN_length _ _ _ _
        have hby1 : Byt (fillF ys 700 [32, t % 256, t / 256]) := fillN_byt hby _ (by intro q hq; simp at hq; omega) _
        obtain ⟨z1, hz1⟩ : ∃ z, z = fillF ys 700 [32, t % 256, t / 256] := ⟨_, rfl⟩
        rw [← hz1] at hlen1 hby1 hown5 ⊢
        have HZ1 := Lib.hid hz1
        have HL1 := Lib.hid hlen1
        clear hz1 hlen1
        have hb3 : Below w3.heap.size w3 w5 := Dn.trans (Dn.al w3 _) hb5
        have kr5 := kr1.later hb3
        have kp5 := kp1.later hb3
        have hl3 : w.heap.size ≤ w3.heap.size := HB1.out.size
        have hlp := kr1.lt
        have hne5 := own_apart hown5 kr5 (by decide)
        have c5 := kr5.cell 0
        have f5 := kr5.frozen 0
        have kr6 : Bk (w5.setCell ⟨pb + 1, 0, none⟩ (.slice (some ⟨g2, 0, none⟩) z1.length cap2)) (pb + 1) 30 #[.slice (some ⟨g2, 0, none⟩) z1.length cap2] := kr5.put 0 _
        have kp6 := kp5.far (p := ⟨pb + 1, 0, none⟩) (by simp) (.slice (some ⟨g2, 0, none⟩) z1.length cap2)
        have HW6 := Lib.hid (own_far (p := ⟨pb + 1, 0, none⟩) (own_more hown5 (b2 := w.heap.size) (by simp; omega)) hne5 (.slice (some ⟨g2, 0, none⟩) z1.length cap2))
        have HB6 := Lib.hid ((HB1.out.trans (hb3.mono hl3)).setCell (p := ⟨pb + 1, 0, none⟩) (by show w.heap.size ≤ pb + 1; omega) (.slice (some ⟨g2, 0, none⟩) z1.length cap2))
        clear hown5 hb5 hb3 kr1 kp1 HB1 HW1 cr cp fr kr5 kp5 hne5
        go_wp2_with fail
        generalize w5.setCell ⟨pb + 1, 0, none⟩ (.slice (some ⟨g2, 0, none⟩) z1.length cap2) = w6 at *
        clear c5 f5
        refine (Poke_c ⟨g2, 0, none⟩ cap2 z1 (by rw [HL1.out]; exact HS.out) t (by omega) (by omega) 96 _ (own_rd HW6.out)).mono ?_
        rintro e w7 ⟨g3, cap3, rfl, hown7, hb7⟩
        have hlen2 : (fillF z1 t [96]).length = z1.length := fillN_length _ _ _ _
        have hby2 : Byt (fillF z1 t [96]) := fillN_byt hby1 _ (by intro q hq; simp at hq; omega) _
        have hz2 : fillF z1 t [96] = fillF (fillF ys 700 [32, t % 256, t / 256]) t [96] := by rw [← HZ1.out]
        generalize fillF z1 t [96] = z2 at *
        have HZ2 := Lib.hid hz2
        have HS2 := Lib.hid (show okSize z2.length by rw [hlen2, HL1.out]; exact HS.out)
        clear hz2 hlen2 HZ1 hby1
        have kr7 := kr6.later hb7
        have kp7 := kp6.later hb7
        have hl6 := kr6.lt
        have hs6 : w.heap.size ≤ w6.heap.size := HB6.out.size
        have hne7 := own_apart hown7 kr7 (by decide)
        have c7 := kr7.cell 0
        have f7 := kr7.frozen 0
        have kr8 : Bk (w7.setCell ⟨pb + 1, 0, none⟩ (.slice (some ⟨g3, 0, none⟩) z2.length cap3)) (pb + 1) 30 #[.slice (some ⟨g3, 0, none⟩) z2.length cap3] := kr7.put 0 _
        have kp8 := kp7.far (p := ⟨pb + 1, 0, none⟩) (by simp) (.slice (some ⟨g3, 0, none⟩) z2.length cap3)
        have HW8 := Lib.hid (own_far (p := ⟨pb + 1, 0, none⟩) (own_more hown7 (b2 := w.heap.size) (by omega)) hne7 (.slice (some ⟨g3, 0, none⟩) z2.length cap3))
        have HB8 := Lib.hid ((HB6.out.trans (hb7.mono hs6)).setCell (p := ⟨pb + 1, 0, none⟩) (by show w.heap.size ≤ pb + 1; omega) (.slice (some ⟨g3, 0, none⟩) z2.length cap3))
        have cp7 := kp7.cell
        clear hown7 hb7 kr6 kp6 HB6 HW6 kr7 kp7 hne7
        go_wp2_with fail
        generalize w7.setCell ⟨pb + 1, 0, none⟩ (.slice (some ⟨g3, 0, none⟩) z2.length cap3) = w8 at *
        clear c7 f7 cp7
        have HP := Lib.hid (call_law c ys t (by omega) hok ht)
        have hc1 : Cp.ok (⟨c.a, c.x, c.y, c.s, 700, c.f⟩ : Cp) := by unfold Cp.ok at hok ⊢; simp only; omega
        refine (Step_c ⟨c.a, c.x, c.y, c.s, 700, c.f⟩ ⟨g3, 0, none⟩ z2.length cap3 z2 hc1 HS2.out hby2 _ (own_rd HW8.out) (hG.later HB8.out)).mono ?_
        rintro e w9 ⟨g4, cap4, cv4, he, hown9, _, hb9, hok9, hby9, hs9⟩
        obtain ⟨m, hm⟩ : ∃ m, m = StepF ⟨c.a, c.x, c.y, c.s, 700, c.f⟩ z2 := ⟨_, rfl⟩
        have hm' : m = StepF ⟨c.a, c.x, c.y, c.s, 700, c.f⟩ (fillF (fillF ys 700 [32, t % 256, t / 256]) t [96]) := by rw [hm, HZ2.out]
        have hp := HP.out
        simp only at hp
        rw [← hm'] at hp
        rw [← hm] at he hown9 hok9 hby9 hs9
        clear hm hm' HP HZ2
        obtain ⟨⟨a1, x1, y1, s1, pc1, f1⟩, mram, mcy⟩ := m
        simp only at hp he hown9 hok9 hby9 hs9
        obtain ⟨hp1, hp2, hp3, hp4⟩ := hp
        subst pc1
        subst hp2
        subst he
        have hl8 : w.heap.size ≤ w8.heap.size := HB8.out.size
        have kp9 := kp8.later hb9
        have hlp9 := kp9.lt
        have HB9 := Lib.hid (HB8.out.trans (hb9.mono hl8))
        have HW9 := Lib.hid (own_more hown9 (b2 := w.heap.size) hl8)
        have HS9 := Lib.hid hs9
        have H3 := Lib.hid hp3
        have H4 := Lib.hid hp4
        clear hown9 hb9 kr8 kp8 HB8 HW8 hs9 hp3 hp4
        go_wp2_with fail
        have ha : Below w9.heap.size w9 ((w9.alloc (.cells #[.int .u8 a1, .int .u8 x1, .int .u8 y1, .int .u8 ((c.s - 2) % 256), .int .u16 t, .bool f1.n, .bool f1.v, .bool f1.d, .bool f1.i, .bool f1.z, .bool f1.c] 28)).alloc (.cells #[.slice (some ⟨g4, 0, none⟩) mram.length cap4] 30)) := Dn.trans (Dn.al w9 _) (Dn.al _ _)
        have kq := (Bk.new w9 28 #[.int .u8 a1, .int .u8 x1, .int .u8 y1, .int .u8 ((c.s - 2) % 256), .int .u16 t, .bool f1.n, .bool f1.v, .bool f1.d, .bool f1.i, .bool f1.z, .bool f1.c]).al (.cells #[.slice (some ⟨g4, 0, none⟩) mram.length cap4] 30)
        refine (Step_c ⟨a1, x1, y1, (c.s - 2) % 256, t, f1⟩ ⟨g4, 0, none⟩ mram.length cap4 mram hok9 HS9.out hby9 _ (own_rd (own_later HW9.out ha)) (hG.later (HB9.out.trans (ha.mono HB9.out.size)))).mono ?_
        rintro e w10 ⟨g5, cap5, cv5, he, _, hcy, hb10, _, _, _⟩
        have h3 := H3.out
        have h4 := H4.out
        obtain ⟨k, hk⟩ : ∃ k, k = StepF ⟨a1, x1, y1, (c.s - 2) % 256, t, f1⟩ mram := ⟨_, rfl⟩
        rw [← hk] at h3 h4 he hcy
        clear hk H3 H4
        obtain ⟨kc, kram, kcy⟩ := k
        simp only at h3 h4 he hcy
        subst h3
        simp only at he
        obtain ⟨cA, cc, rfl⟩ := own_shape hcy
        rw [h4] at he
        subst he
        have kp10 := (kp9.later ha).later hb10
        have kq10 := kq.later hb10
        have HB10 := Lib.hid (HB9.out.trans ((ha.trans (hb10.mono ha.size)).mono HB9.out.size))
        have cp := kp10.cell
        have cq := kq10.cell
        have h1 := kp10.lt
        have h2 := kq10.lt
        clear hcy hb10 ha kq kp9 HB9 HW9 kp10 kq10
        generalize w9.heap.size = qb at *
        have h1a : pb < w10.heap.size + 1 := by omega
        have h1b : pb < w10.heap.size + 1 + 1 := by omega
        have h2a : qb < w10.heap.size + 1 := by omega
        have h2b : qb < w10.heap.size + 1 + 1 := by omega
        go_wp2
        go_returns
        exact ⟨rfl, Bl.al (Bl.al (Bl.al HB10.out (Nat.le_refl _) _) (Nat.le_refl _) _) (Nat.le_refl _) _⟩
end Go.Proofs.YtemahcjglmhefaaDoor
