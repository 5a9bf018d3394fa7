/- An interrupt; the faces Step and Serve. No condition. The faces Step and Serve. No condition. The face Serve. No condition. -/
import Derived.Test.YtemahcjglmhefaaGreatDoorKStep3
namespace Go.Proofs.YtemahcjglmhefaaGreatDoor
set_option linter.unusedVariables false
set_option linter.unusedSimpArgs false
open Go.RowKit
attribute [local irreducible] World.setCell

theorem St.seven {B : Nat} {w0 w : World} {b g : Nat} {m : Ms} (h : St B w0 b g m w) : w.cell? ⟨b, 4, none⟩ = some (.int .u16 m.c.pc) ∧ w.cell? ⟨b, 5, none⟩ = some (.bool m.c.f.n) ∧ w.cell? ⟨b, 6, none⟩ = some (.bool m.c.f.v) ∧ w.cell? ⟨b, 7, none⟩ = some (.bool m.c.f.d) ∧ w.cell? ⟨b, 8, none⟩ = some (.bool m.c.f.i) ∧ w.cell? ⟨b, 9, none⟩ = some (.bool m.c.f.z) ∧ w.cell? ⟨b, 10, none⟩ = some (.bool m.c.f.c) := by
  obtain ⟨cap, cv, hc, _⟩ := h.open_
  exact ⟨hc 4, hc 5, hc 6, hc 7, hc 8, hc 9, hc 10⟩
set_option maxHeartbeats 1000000 in
set_option maxRecDepth 100000 in
theorem serve_true {B : Nat} {w0 w : World} {b g : Nat} {m : Ms} (h : St B w0 b g m w) (hl : m.cy.length < 700000) :
    Calls Tryz.prog 23 #[.pointer (some ⟨b, 0, none⟩), .bool true] w fun e w' => e = .returned (.tuple #[]) ∧ St B w0 b g (serveF m true) w' := by
  have hA := h.cok
  have hpc : 0 ≤ m.c.pc ∧ m.c.pc < 65536 := by unfold Cp.ok at hA; omega
  have hp := pack_ok m.c.f false
  have u2 : 0 ≤ m.c.pc / 256 ∧ m.c.pc / 256 < 256 := by omega
  have u3 := u8_ok m.c.pc
  have u1 : m.c.pc % 256 = u8 m.c.pc := rfl
  have u4 : IntKind.u8.wrap m.c.pc = u8 m.c.pc := wrap_u8 _
  have u5 : IntKind.u8.wrap (m.c.pc / 256) = m.c.pc / 256 := (wrap_u8 _).trans (Int.emod_eq_of_lt u2.1 u2.2)
  have HS : Hid (serveF m true = vecF (((m.read m.c.pc).read m.c.pc).push [m.c.pc / 256, u8 m.c.pc, packF m.c.f false]) 65530 65531) := rfl
  obtain ⟨cap, cv, hc, hf, _, _⟩ := h.open_
  go_enter Tryz.func23, Tryz.ntmps23
  go_wp2_with fail
  refine (read_c h m.c.pc hpc.1 hpc.2 (by first | omega | (simp; omega))).mono ?_
  rintro e w1 ⟨rfl, s1⟩
  obtain ⟨cap1, cv1, s1c, s1f, _, _⟩ := s1.open_
  go_wp2_with fail
  refine (read_c s1 m.c.pc hpc.1 hpc.2 (by first | omega | (simp; omega))).mono ?_
  rintro e w2 ⟨rfl, s2⟩
  obtain ⟨cap2, cv2, s2c, s2f, _, _⟩ := s2.open_
  go_wp2_with fail
  go_region_held3 (fun w' => w'.cell? ⟨b, 4, none⟩ = some (.int .u16 m.c.pc) ∧ w'.cell? ⟨b, 5, none⟩ = some (.bool m.c.f.n) ∧ w'.cell? ⟨b, 6, none⟩ = some (.bool m.c.f.v) ∧ w'.cell? ⟨b, 7, none⟩ = some (.bool m.c.f.d) ∧ w'.cell? ⟨b, 8, none⟩ = some (.bool m.c.f.i) ∧ w'.cell? ⟨b, 9, none⟩ = some (.bool m.c.f.z) ∧ w'.cell? ⟨b, 10, none⟩ = some (.bool m.c.f.c)) (first | exact s2.drew.seven | exact s5.seven | exact (s5.later (Dn.al _ _)).seven | exact y6) (first | (go_at_call 46; refine (PackP_c m.c.f false _).mono ?_; rintro e w5 ⟨rfl, hb5⟩; have s5 := s2.drew.later hb5) | (go_at_call 45; refine (pushNew s5 [m.c.pc / 256, u8 m.c.pc, packF m.c.f false] (byt3 u2 u3 hp) (by first | omega | (simp; omega)) (by simp) _ _ rfl _ rfl).mono ?_; rintro e w6 ⟨rfl, s6⟩; have y6 := s6.seven; rw [push_look_pc, push_f] at y6))
  clear y6
  obtain ⟨cap6, cv6, s6c, s6f, _, _⟩ := s6.open_
  have hby := s6.byt
  have hlen : ((((m.read m.c.pc).read m.c.pc).push [m.c.pc / 256, u8 m.c.pc, packF m.c.f false])).cy.length = m.cy.length + 5 := by simp
  generalize (((m.read m.c.pc).read m.c.pc).push [m.c.pc / 256, u8 m.c.pc, packF m.c.f false]) = q at *
  go_wp2_with fail
  refine (readTwo_c s6 65530 65531 (by omega) (by omega) (by omega) (by omega) (by omega)).mono ?_
  rintro e w7 ⟨rfl, s7⟩
  obtain ⟨cap7, cv7, s7c, s7f, _, _⟩ := s7.open_
  have s8 := s7.vec hby
  have S8 := Lib.hid s8
  clear s8
  go_wp2
  go_returns
  rw [HS.out]
  exact ⟨rfl, S8.out⟩
set_option maxHeartbeats 1000000 in
set_option maxRecDepth 100000 in
theorem serve_false {B : Nat} {w0 w : World} {b g : Nat} {m : Ms} (h : St B w0 b g m w) (hl : m.cy.length < 700000) :
    Calls Tryz.prog 23 #[.pointer (some ⟨b, 0, none⟩), .bool false] w fun e w' => e = .returned (.tuple #[]) ∧ St B w0 b g (serveF m false) w' := by
  have hA := h.cok
  have hpc : 0 ≤ m.c.pc ∧ m.c.pc < 65536 := by unfold Cp.ok at hA; omega
  have hp := pack_ok m.c.f false
  have u2 : 0 ≤ m.c.pc / 256 ∧ m.c.pc / 256 < 256 := by omega
  have u3 := u8_ok m.c.pc
  have u1 : m.c.pc % 256 = u8 m.c.pc := rfl
  have u4 : IntKind.u8.wrap m.c.pc = u8 m.c.pc := wrap_u8 _
  have u5 : IntKind.u8.wrap (m.c.pc / 256) = m.c.pc / 256 := (wrap_u8 _).trans (Int.emod_eq_of_lt u2.1 u2.2)
  have HS : Hid (serveF m false = vecF (((m.read m.c.pc).read m.c.pc).push [m.c.pc / 256, u8 m.c.pc, packF m.c.f false]) 65534 65535) := rfl
  obtain ⟨cap, cv, hc, hf, _, _⟩ := h.open_
  go_enter Tryz.func23, Tryz.ntmps23
  go_wp2_with fail
  refine (read_c h m.c.pc hpc.1 hpc.2 (by first | omega | (simp; omega))).mono ?_
  rintro e w1 ⟨rfl, s1⟩
  obtain ⟨cap1, cv1, s1c, s1f, _, _⟩ := s1.open_
  go_wp2_with fail
  refine (read_c s1 m.c.pc hpc.1 hpc.2 (by first | omega | (simp; omega))).mono ?_
  rintro e w2 ⟨rfl, s2⟩
  obtain ⟨cap2, cv2, s2c, s2f, _, _⟩ := s2.open_
  go_wp2_with fail
  go_region_held3 (fun w' => w'.cell? ⟨b, 4, none⟩ = some (.int .u16 m.c.pc) ∧ w'.cell? ⟨b, 5, none⟩ = some (.bool m.c.f.n) ∧ w'.cell? ⟨b, 6, none⟩ = some (.bool m.c.f.v) ∧ w'.cell? ⟨b, 7, none⟩ = some (.bool m.c.f.d) ∧ w'.cell? ⟨b, 8, none⟩ = some (.bool m.c.f.i) ∧ w'.cell? ⟨b, 9, none⟩ = some (.bool m.c.f.z) ∧ w'.cell? ⟨b, 10, none⟩ = some (.bool m.c.f.c)) (first | exact s2.drew.seven | exact s5.seven | exact (s5.later (Dn.al _ _)).seven | exact y6) (first | (go_at_call 46; refine (PackP_c m.c.f false _).mono ?_; rintro e w5 ⟨rfl, hb5⟩; have s5 := s2.drew.later hb5) | (go_at_call 45; refine (pushNew s5 [m.c.pc / 256, u8 m.c.pc, packF m.c.f false] (byt3 u2 u3 hp) (by first | omega | (simp; omega)) (by simp) _ _ rfl _ rfl).mono ?_; rintro e w6 ⟨rfl, s6⟩; have y6 := s6.seven; rw [push_look_pc, push_f] at y6))
  clear y6
  obtain ⟨cap6, cv6, s6c, s6f, _, _⟩ := s6.open_
  have hby := s6.byt
  have hlen : ((((m.read m.c.pc).read m.c.pc).push [m.c.pc / 256, u8 m.c.pc, packF m.c.f false])).cy.length = m.cy.length + 5 := by simp
  generalize (((m.read m.c.pc).read m.c.pc).push [m.c.pc / 256, u8 m.c.pc, packF m.c.f false]) = q at *
  go_wp2_with fail
  refine (readTwo_c s6 65534 65535 (by omega) (by omega) (by omega) (by omega) (by omega)).mono ?_
  rintro e w7 ⟨rfl, s7⟩
  obtain ⟨cap7, cv7, s7c, s7f, _, _⟩ := s7.open_
  have s8 := s7.vec hby
  have S8 := Lib.hid s8
  clear s8
  go_wp2
  go_returns
  rw [HS.out]
  exact ⟨rfl, S8.out⟩
end Go.Proofs.YtemahcjglmhefaaGreatDoor
namespace Go.Proofs.YtemahcjglmhefaaGreatDoor
set_option linter.unusedVariables false
set_option linter.unusedSimpArgs false
open Go.RowKit
attribute [local irreducible] World.setCell

theorem own_far11 {w : World} {base n : Nat} {e : TypeId} {size : Nat} {v : Value} {xs : List Value} (h : w.ownsRow base e size v n xs) {k : Nat} (hk : some k ≠ v.ownBlock) (a0 a1 a2 a3 a4 a5 a6 a7 a8 a9 a10 : Value) :
    (((((((((((w.setCell ⟨k, 0, none⟩ a0).setCell ⟨k, 1, none⟩ a1).setCell ⟨k, 2, none⟩ a2).setCell ⟨k, 3, none⟩ a3).setCell ⟨k, 4, none⟩ a4).setCell ⟨k, 5, none⟩ a5).setCell ⟨k, 6, none⟩ a6).setCell ⟨k, 7, none⟩ a7).setCell ⟨k, 8, none⟩ a8).setCell ⟨k, 9, none⟩ a9).setCell ⟨k, 10, none⟩ a10).ownsRow base e size v n xs :=
  own_far (p := ⟨k, 10, none⟩) (own_far (p := ⟨k, 9, none⟩) (own_far (p := ⟨k, 8, none⟩) (own_far (p := ⟨k, 7, none⟩) (own_far (p := ⟨k, 6, none⟩) (own_far (p := ⟨k, 5, none⟩) (own_far (p := ⟨k, 4, none⟩) (own_far (p := ⟨k, 3, none⟩) (own_far (p := ⟨k, 2, none⟩) (own_far (p := ⟨k, 1, none⟩) (own_far (p := ⟨k, 0, none⟩) h hk _) hk _) hk _) hk _) hk _) hk _) hk _) hk _) hk _) hk _) hk _
theorem below11 {w0 w : World} {B : Nat} (h : Below B w0 w) {k : Nat} (hk : B ≤ k) (a0 a1 a2 a3 a4 a5 a6 a7 a8 a9 a10 : Value) :
    Below B w0 (((((((((((w.setCell ⟨k, 0, none⟩ a0).setCell ⟨k, 1, none⟩ a1).setCell ⟨k, 2, none⟩ a2).setCell ⟨k, 3, none⟩ a3).setCell ⟨k, 4, none⟩ a4).setCell ⟨k, 5, none⟩ a5).setCell ⟨k, 6, none⟩ a6).setCell ⟨k, 7, none⟩ a7).setCell ⟨k, 8, none⟩ a8).setCell ⟨k, 9, none⟩ a9).setCell ⟨k, 10, none⟩ a10) :=
  ((((((((((h.setCell (p := ⟨k, 0, none⟩) hk _).setCell (p := ⟨k, 1, none⟩) hk _).setCell (p := ⟨k, 2, none⟩) hk _).setCell (p := ⟨k, 3, none⟩) hk _).setCell (p := ⟨k, 4, none⟩) hk _).setCell (p := ⟨k, 5, none⟩) hk _).setCell (p := ⟨k, 6, none⟩) hk _).setCell (p := ⟨k, 7, none⟩) hk _).setCell (p := ⟨k, 8, none⟩) hk _).setCell (p := ⟨k, 9, none⟩) hk _).setCell (p := ⟨k, 10, none⟩) hk _
theorem Bk.newK {W : World} {k : Nat} (h : W.heap.size = k) (t : TypeId) (cs : Array Value) : Bk (W.alloc (.cells cs t)) k t cs := h ▸ Bk.new W t cs
theorem St.start {w w2 : World} {g cap : Nat} {c : Cp} {xs : List Int} (hG : Gl w) (hb : Below w.heap.size w w2) (hc : c.ok) (hs : okSize xs.length) (hx : Byt xs)
    (ho : w2.ownsRow w.heap.size 5 1 (.slice (some ⟨g, 0, none⟩) xs.length cap) xs.length (nums .u8 xs)) :
    St w.heap.size w w2.heap.size g ⟨c, xs, []⟩ (w2.alloc (.cells #[.int .u8 c.a, .int .u8 c.x, .int .u8 c.y, .int .u8 c.s, .int .u16 c.pc, .bool c.f.n, .bool c.f.v, .bool c.f.d, .bool c.f.i, .bool c.f.z, .bool c.f.c, .slice (some ⟨g, 0, none⟩) xs.length cap, .slice none 0 0] 57)) :=
  ⟨hG.sz, hG, hb.size, hb.alloc hb.size _, by simp; have := hb.size; omega, Fr.later (hb.alloc hb.size _), hc, hs, hx, cap, .slice none 0 0, Bk.new _ _ _, ho.alloc _, World.ownsRow_nil _ _ _ _⟩
/-- What Step and Serve hand back. -/
def Out (w : World) (m : Ms) (e : Ending) (w' : World) : Prop := ∃ g cap cv, e = .returned (.tuple #[.agg #[.int .u8 m.c.a, .int .u8 m.c.x, .int .u8 m.c.y, .int .u8 m.c.s, .int .u16 m.c.pc, .bool m.c.f.n, .bool m.c.f.v, .bool m.c.f.d, .bool m.c.f.i, .bool m.c.f.z, .bool m.c.f.c], .agg #[.slice (some ⟨g, 0, none⟩) m.ram.length cap], cv]) ∧
  w'.ownsRow w.heap.size 5 1 (.slice (some ⟨g, 0, none⟩) m.ram.length cap) m.ram.length (nums .u8 m.ram) ∧ w'.ownsRow w.heap.size 44 3 cv m.cy.length (cyCells m.cy) ∧ Below w.heap.size w w' ∧ m.c.ok ∧ Byt m.ram ∧ okSize m.ram.length
def StepF (c : Cp) (xs : List Int) : Ms := if (opF (rd xs (c.pc % (xs.length : Int)))).1.isEmpty then ⟨c, xs, []⟩ else stepF ⟨c, xs, []⟩
set_option maxHeartbeats 1000000 in
set_option maxRecDepth 100000 in
theorem Step_c (c : Cp) (ad : Addr) (n cap : Nat) (xs : List Int) (hc : c.ok) (hs : okSize n) (hx : Byt xs) (w : World) (hr : Rds w .u8 (some ad) n xs) (hG : Gl w) :
    Calls Tryz.prog 11 #[.agg #[.int .u8 c.a, .int .u8 c.x, .int .u8 c.y, .int .u8 c.s, .int .u16 c.pc, .bool c.f.n, .bool c.f.v, .bool c.f.d, .bool c.f.i, .bool c.f.z, .bool c.f.c], .agg #[.slice (some ad) n cap]] w (Out w (StepF c xs)) := by
  have HS := Lib.hid ((okSizeB_iff n).2 hs)
  have hn : 0 < n ∧ n ≤ 4096 := by unfold okSize at hs; omega
  have hxs := hr.1
  subst hxs
  have HR := Lib.hid hr
  have hpc : 0 ≤ c.pc ∧ c.pc < 65536 := by unfold Cp.ok at hc; omega
  clear hr
  go_enter Tryz.func11, Tryz.ntmps11
  go_wp2_with fail
  refine (RamOk_c _ _ _ (by omega) _).mono ?_
  rintro e w1 ⟨rfl, hb1⟩
  rw [HS.out]
  have hB1 : Below w.heap.size w w1 := Dn.trans (Dn.al w _) (Dn.trans (Dn.al _ _) (Dn.trans (Dn.al _ _) (Dn.trans (Dn.al _ _) hb1)))
  have k0 := ((((Bk.new w 28 #[.int .u8 c.a, .int .u8 c.x, .int .u8 c.y, .int .u8 c.s, .int .u16 c.pc, .bool c.f.n, .bool c.f.v, .bool c.f.d, .bool c.f.i, .bool c.f.z, .bool c.f.c]).al (.cells #[.slice (some ad) xs.length cap] 30)).al (.cells #[.int .u8 0, .int .u8 0, .int .u8 0, .int .u8 0, .int .u16 0, .bool false, .bool false, .bool false, .bool false, .bool false, .bool false] 28)).al (.cells #[.slice none 0 0] 30)).later hb1
  have k1 := (((Bk.new1 w (.cells #[.int .u8 c.a, .int .u8 c.x, .int .u8 c.y, .int .u8 c.s, .int .u16 c.pc, .bool c.f.n, .bool c.f.v, .bool c.f.d, .bool c.f.i, .bool c.f.z, .bool c.f.c] 28) 30 #[.slice (some ad) xs.length cap]).al (.cells #[.int .u8 0, .int .u8 0, .int .u8 0, .int .u8 0, .int .u16 0, .bool false, .bool false, .bool false, .bool false, .bool false, .bool false] 28)).al (.cells #[.slice none 0 0] 30)).later hb1
  have k2 := ((Bk.newK (W := (w.alloc (.cells #[.int .u8 c.a, .int .u8 c.x, .int .u8 c.y, .int .u8 c.s, .int .u16 c.pc, .bool c.f.n, .bool c.f.v, .bool c.f.d, .bool c.f.i, .bool c.f.z, .bool c.f.c] 28)).alloc (.cells #[.slice (some ad) xs.length cap] 30)) (k := w.heap.size + 1 + 1) (by simp) 28 #[.int .u8 0, .int .u8 0, .int .u8 0, .int .u8 0, .int .u16 0, .bool false, .bool false, .bool false, .bool false, .bool false, .bool false]).al (.cells #[.slice none 0 0] 30)).later hb1
  have k3 := (Bk.newK (W := ((w.alloc (.cells #[.int .u8 c.a, .int .u8 c.x, .int .u8 c.y, .int .u8 c.s, .int .u16 c.pc, .bool c.f.n, .bool c.f.v, .bool c.f.d, .bool c.f.i, .bool c.f.z, .bool c.f.c] 28)).alloc (.cells #[.slice (some ad) xs.length cap] 30)).alloc (.cells #[.int .u8 0, .int .u8 0, .int .u8 0, .int .u8 0, .int .u16 0, .bool false, .bool false, .bool false, .bool false, .bool false, .bool false] 28)) (k := w.heap.size + 1 + 1 + 1) (by simp) 30 #[.slice none 0 0]).later hb1
  clear hb1
  have c0 := k0.cell
  have c1 := k1.cell 0
  go_wp2_with fail
  go_region_held3 (fun w' => (∀ i, w'.cell? ⟨w.heap.size, i, none⟩ = (#[.int .u8 c.a, .int .u8 c.x, .int .u8 c.y, .int .u8 c.s, .int .u16 c.pc, .bool c.f.n, .bool c.f.v, .bool c.f.d, .bool c.f.i, .bool c.f.z, .bool c.f.c] : Array Value)[i]?) ∧ w'.cell? ⟨w.heap.size + 1, 0, none⟩ = some (.slice (some ad) xs.length cap)) (first | exact ⟨c0, c1⟩ | exact ⟨(k0.drew.later hb2).cell, (k1.drew.later hb2).cell 0⟩ | exact ⟨((k0.drew.later hb2).al _).cell, ((k1.drew.later hb2).al _).cell 0⟩) (first | (go_at_call 22; refine (cloned_c ad xs.length cap xs (by omega) _ (HR.out.later (Dn.trans hB1 (Dn.drew w1)))).mono ?_; rintro e w2 ⟨g, cap2, rfl, hown, hb2⟩))
  have hB2 : Below w.heap.size w w2 := Dn.trans hB1 (Dn.trans (Dn.drew w1) hb2)
  have hown2 := own_more hown (b2 := w.heap.size) hB1.size
  have h0 := St.start hG hB2 hc hs hx hown2
  have hg : w1.heap.size ≤ g := (hown.lt g rfl).1
  have hl1 := hB1.size
  have hl3 := k3.lt
  have hb0 : w1.heap.size ≤ w2.heap.size := hb2.size
  have q0 := (k0.drew.later hb2).al (.cells #[.int .u8 c.a, .int .u8 c.x, .int .u8 c.y, .int .u8 c.s, .int .u16 c.pc, .bool c.f.n, .bool c.f.v, .bool c.f.d, .bool c.f.i, .bool c.f.z, .bool c.f.c, .slice (some ⟨g, 0, none⟩) xs.length cap2, .slice none 0 0] 57)
  have q1 := (k1.drew.later hb2).al (.cells #[.int .u8 c.a, .int .u8 c.x, .int .u8 c.y, .int .u8 c.s, .int .u16 c.pc, .bool c.f.n, .bool c.f.v, .bool c.f.d, .bool c.f.i, .bool c.f.z, .bool c.f.c, .slice (some ⟨g, 0, none⟩) xs.length cap2, .slice none 0 0] 57)
  have q2 := (k2.drew.later hb2).al (.cells #[.int .u8 c.a, .int .u8 c.x, .int .u8 c.y, .int .u8 c.s, .int .u16 c.pc, .bool c.f.n, .bool c.f.v, .bool c.f.d, .bool c.f.i, .bool c.f.z, .bool c.f.c, .slice (some ⟨g, 0, none⟩) xs.length cap2, .slice none 0 0] 57)
  have q3 := (k3.drew.later hb2).al (.cells #[.int .u8 c.a, .int .u8 c.x, .int .u8 c.y, .int .u8 c.s, .int .u16 c.pc, .bool c.f.n, .bool c.f.v, .bool c.f.d, .bool c.f.i, .bool c.f.z, .bool c.f.c, .slice (some ⟨g, 0, none⟩) xs.length cap2, .slice none 0 0] 57)
  rename_i hHeld
  clear hHeld c0 c1 k0 k1 k2 k3
  generalize w2.heap.size = b at *
  generalize w2.alloc (.cells #[.int .u8 c.a, .int .u8 c.x, .int .u8 c.y, .int .u8 c.s, .int .u16 c.pc, .bool c.f.n, .bool c.f.v, .bool c.f.d, .bool c.f.i, .bool c.f.z, .bool c.f.c, .slice (some ⟨g, 0, none⟩) xs.length cap2, .slice none 0 0] 57) = w3 at *
  have HR3 := Lib.hid (HR.out.later (h0.bel))
  have c0 := q0.cell
  have c1 := q1.cell 0
  clear hown hown2 hb2 hB2
  have hj := Jams_c (some ad) xs.length cap xs c.pc hpc.1 hpc.2 hs hx w3 HR3.out h0.gl
  have HO : Hid (StepF c xs = if (opF (rd xs (c.pc % (xs.length : Int)))).1.isEmpty then ⟨c, xs, []⟩ else stepF ⟨c, xs, []⟩) := rfl
  cases hjm : (opF (rd xs (c.pc % (xs.length : Int)))).1.isEmpty
  · rw [hjm] at hj
    have HJ := Lib.hid hjm
    have hne : (opF ((⟨c, xs, []⟩ : Ms).look c.pc)).1 ≠ [] := by
      intro e
      rw [show (opF (rd xs (c.pc % (xs.length : Int)))).1 = [] from e] at hjm
      simp at hjm
    clear hjm
    go_wp2_with fail
    refine hj.mono ?_
    rintro e w4 ⟨rfl, hb4⟩
    have h4 := h0.later hb4
    have r2 := q2.later hb4
    have r3 := q3.later hb4
    clear hj c0 c1 q0 q1 q2 q3
    go_wp2_with fail
    refine (step_c h4.from_ (by simp) hne).mono ?_
    rintro e w5 ⟨rfl, h5⟩
    have q2 := h5.fr.2 _ _ _ r2 (by omega) (by omega) (by decide)
    have q3 := h5.fr.2 _ _ _ r3 (by omega) (by omega) (by decide)
    have hs5 := h4.trans_ h5
    have HM : Hid (StepF c xs = stepF ⟨c, xs, []⟩) := by rw [show StepF c xs = _ from HO.out, HJ.out]; rfl
    generalize stepF ⟨c, xs, []⟩ = m at *
    clear h4 h5 r2 r3 hb4
    have hne2 : b ≠ w.heap.size + 1 + 1 := by omega
    have hne3 : b ≠ w.heap.size + 1 + 1 + 1 := by omega
    obtain ⟨cap6, cv6, zc, zf, zr, zy⟩ := hs5.open_
    have z2 := q2.cell
    have z3 := q3.cell 0
    have zf2 := q2.frozen
    have zf3 := q3.frozen 0
    go_wp2_with fail
    go_region_held3 (fun w' => ∀ i, w'.cell? ⟨b, i, none⟩ = (#[.int .u8 m.c.a, .int .u8 m.c.x, .int .u8 m.c.y, .int .u8 m.c.s, .int .u16 m.c.pc, .bool m.c.f.n, .bool m.c.f.v, .bool m.c.f.d, .bool m.c.f.i, .bool m.c.f.z, .bool m.c.f.c, .slice (some ⟨g, 0, none⟩) m.ram.length cap6, cv6] : Array Value)[i]?) (first | exact zc | (intro i; simp [World.cell?_setCell_other, Ne.symm hne2, Ne.symm hne3, zc])) (fail)
    rename_i hHeld
    clear hHeld
    have g2 : some (w.heap.size + 1 + 1) ≠ (Value.slice (some ⟨g, 0, none⟩) m.ram.length cap6).ownBlock := by simp [Value.ownBlock]; omega
    have g3 : some (w.heap.size + 1 + 1 + 1) ≠ (Value.slice (some ⟨g, 0, none⟩) m.ram.length cap6).ownBlock := by simp [Value.ownBlock]; omega
    have y2 := own_apart zy q2 (by decide)
    have y3 := own_apart zy q3 (by decide)
    have hbe := hs5.bel
    have hok := hs5.cok
    have hby := hs5.byt
    have HSK := Lib.hid hs5.sok
    clear hs5 zc zf q2 q3
    go_wp2
    refine bodyPost_ret (v := .tuple #[.agg #[.int .u8 m.c.a, .int .u8 m.c.x, .int .u8 m.c.y, .int .u8 m.c.s, .int .u16 m.c.pc, .bool m.c.f.n, .bool m.c.f.v, .bool m.c.f.d, .bool m.c.f.i, .bool m.c.f.z, .bool m.c.f.c], .agg #[.slice (some ⟨g, 0, none⟩) m.ram.length cap6], cv6]) (by simp [results, Tryz.results11, go_sem, z2, z3]) rfl ?_
    rw [HM.out]
    exact ⟨g, cap6, cv6, rfl, own_far (p := ⟨w.heap.size + 1 + 1 + 1, 0, none⟩) (own_far11 zr g2 _ _ _ _ _ _ _ _ _ _ _) g3 _, own_far (p := ⟨w.heap.size + 1 + 1 + 1, 0, none⟩) (own_far11 zy y2 _ _ _ _ _ _ _ _ _ _ _) y3 _, ((below11 hbe (by omega) _ _ _ _ _ _ _ _ _ _ _).setCell (p := ⟨w.heap.size + 1 + 1 + 1, 0, none⟩) (by simp; omega) _).drew, hok, hby, HSK.out⟩
  · rw [hjm] at hj
    have HJ := Lib.hid hjm
    clear hjm
    go_wp2_with fail
    refine hj.mono ?_
    rintro e w5 ⟨rfl, hb4⟩
    have hs5 := h0.later hb4
    have q2 := q2.later hb4
    have q3 := q3.later hb4
    have HM : Hid (StepF c xs = ⟨c, xs, []⟩) := by rw [show StepF c xs = _ from HO.out, HJ.out]; rfl
    clear hj c0 c1 q0 q1 hb4 h0 HO
    generalize hmm : (⟨c, xs, []⟩ : Ms) = m at *
    clear hmm
    have hne2 : b ≠ w.heap.size + 1 + 1 := by omega
    have hne3 : b ≠ w.heap.size + 1 + 1 + 1 := by omega
    obtain ⟨cap6, cv6, zc, zf, zr, zy⟩ := hs5.open_
    have z2 := q2.cell
    have z3 := q3.cell 0
    have zf2 := q2.frozen
    have zf3 := q3.frozen 0
    go_wp2_with fail
    go_region_held3 (fun w' => ∀ i, w'.cell? ⟨b, i, none⟩ = (#[.int .u8 m.c.a, .int .u8 m.c.x, .int .u8 m.c.y, .int .u8 m.c.s, .int .u16 m.c.pc, .bool m.c.f.n, .bool m.c.f.v, .bool m.c.f.d, .bool m.c.f.i, .bool m.c.f.z, .bool m.c.f.c, .slice (some ⟨g, 0, none⟩) m.ram.length cap6, cv6] : Array Value)[i]?) (first | exact zc | (intro i; simp [World.cell?_setCell_other, Ne.symm hne2, Ne.symm hne3, zc])) (fail)
    rename_i hHeld
    clear hHeld
    have g2 : some (w.heap.size + 1 + 1) ≠ (Value.slice (some ⟨g, 0, none⟩) m.ram.length cap6).ownBlock := by simp [Value.ownBlock]; omega
    have g3 : some (w.heap.size + 1 + 1 + 1) ≠ (Value.slice (some ⟨g, 0, none⟩) m.ram.length cap6).ownBlock := by simp [Value.ownBlock]; omega
    have y2 := own_apart zy q2 (by decide)
    have y3 := own_apart zy q3 (by decide)
    have hbe := hs5.bel
    have hok := hs5.cok
    have hby := hs5.byt
    have HSK := Lib.hid hs5.sok
    clear hs5 zc zf q2 q3
    go_wp2
    refine bodyPost_ret (v := .tuple #[.agg #[.int .u8 m.c.a, .int .u8 m.c.x, .int .u8 m.c.y, .int .u8 m.c.s, .int .u16 m.c.pc, .bool m.c.f.n, .bool m.c.f.v, .bool m.c.f.d, .bool m.c.f.i, .bool m.c.f.z, .bool m.c.f.c], .agg #[.slice (some ⟨g, 0, none⟩) m.ram.length cap6], cv6]) (by simp [results, Tryz.results11, go_sem, z2, z3]) rfl ?_
    rw [HM.out]
    exact ⟨g, cap6, cv6, rfl, own_far (p := ⟨w.heap.size + 1 + 1 + 1, 0, none⟩) (own_far11 zr g2 _ _ _ _ _ _ _ _ _ _ _) g3 _, own_far (p := ⟨w.heap.size + 1 + 1 + 1, 0, none⟩) (own_far11 zy y2 _ _ _ _ _ _ _ _ _ _ _) y3 _, ((below11 hbe (by omega) _ _ _ _ _ _ _ _ _ _ _).setCell (p := ⟨w.heap.size + 1 + 1 + 1, 0, none⟩) (by simp; omega) _).drew, hok, hby, HSK.out⟩
end Go.Proofs.YtemahcjglmhefaaGreatDoor
namespace Go.Proofs.YtemahcjglmhefaaGreatDoor
set_option linter.unusedVariables false
set_option linter.unusedSimpArgs false
open Go.RowKit
attribute [local irreducible] World.setCell
theorem serve_c {B : Nat} {w0 w : World} {b g : Nat} {m : Ms} (h : St B w0 b g m w) (nmi : Bool) (hl : m.cy.length < 700000) :
    Calls Tryz.prog 23 #[.pointer (some ⟨b, 0, none⟩), .bool nmi] w fun e w' => e = .returned (.tuple #[]) ∧ St B w0 b g (serveF m nmi) w' := by
  cases nmi
  · exact serve_false h hl
  · exact serve_true h hl
set_option maxHeartbeats 1000000 in
set_option maxRecDepth 100000 in
theorem Serve_c (c : Cp) (ad : Addr) (n cap : Nat) (xs : List Int) (hc : c.ok) (hs : okSize n) (hx : Byt xs) (w : World) (hr : Rds w .u8 (some ad) n xs) (hG : Gl w) (nmi : Bool) :
    Calls Tryz.prog 7 #[.agg #[.int .u8 c.a, .int .u8 c.x, .int .u8 c.y, .int .u8 c.s, .int .u16 c.pc, .bool c.f.n, .bool c.f.v, .bool c.f.d, .bool c.f.i, .bool c.f.z, .bool c.f.c], .agg #[.slice (some ad) n cap], .bool nmi] w (Out w (serveF ⟨c, xs, []⟩ nmi)) := by
  have HS := Lib.hid ((okSizeB_iff n).2 hs)
  have hn : 0 < n ∧ n ≤ 4096 := by unfold okSize at hs; omega
  have hxs := hr.1
  subst hxs
  have HR := Lib.hid hr
  have hpc : 0 ≤ c.pc ∧ c.pc < 65536 := by unfold Cp.ok at hc; omega
  clear hr
  go_enter Tryz.func7, Tryz.ntmps7
  go_wp2_with fail
  refine (RamOk_c _ _ _ (by omega) _).mono ?_
  rintro e w1 ⟨rfl, hb1⟩
  rw [HS.out]
  have hB1 : Below w.heap.size w w1 := Dn.trans (Dn.al w _) (Dn.trans (Dn.al _ _) (Dn.trans (Dn.al _ _) (Dn.trans (Dn.al _ _) hb1)))
  have k0 := ((((Bk.new w 28 #[.int .u8 c.a, .int .u8 c.x, .int .u8 c.y, .int .u8 c.s, .int .u16 c.pc, .bool c.f.n, .bool c.f.v, .bool c.f.d, .bool c.f.i, .bool c.f.z, .bool c.f.c]).al (.cells #[.slice (some ad) xs.length cap] 30)).al (.cells #[.int .u8 0, .int .u8 0, .int .u8 0, .int .u8 0, .int .u16 0, .bool false, .bool false, .bool false, .bool false, .bool false, .bool false] 28)).al (.cells #[.slice none 0 0] 30)).later hb1
  have k1 := (((Bk.new1 w (.cells #[.int .u8 c.a, .int .u8 c.x, .int .u8 c.y, .int .u8 c.s, .int .u16 c.pc, .bool c.f.n, .bool c.f.v, .bool c.f.d, .bool c.f.i, .bool c.f.z, .bool c.f.c] 28) 30 #[.slice (some ad) xs.length cap]).al (.cells #[.int .u8 0, .int .u8 0, .int .u8 0, .int .u8 0, .int .u16 0, .bool false, .bool false, .bool false, .bool false, .bool false, .bool false] 28)).al (.cells #[.slice none 0 0] 30)).later hb1
  have k2 := ((Bk.newK (W := (w.alloc (.cells #[.int .u8 c.a, .int .u8 c.x, .int .u8 c.y, .int .u8 c.s, .int .u16 c.pc, .bool c.f.n, .bool c.f.v, .bool c.f.d, .bool c.f.i, .bool c.f.z, .bool c.f.c] 28)).alloc (.cells #[.slice (some ad) xs.length cap] 30)) (k := w.heap.size + 1 + 1) (by simp) 28 #[.int .u8 0, .int .u8 0, .int .u8 0, .int .u8 0, .int .u16 0, .bool false, .bool false, .bool false, .bool false, .bool false, .bool false]).al (.cells #[.slice none 0 0] 30)).later hb1
  have k3 := (Bk.newK (W := ((w.alloc (.cells #[.int .u8 c.a, .int .u8 c.x, .int .u8 c.y, .int .u8 c.s, .int .u16 c.pc, .bool c.f.n, .bool c.f.v, .bool c.f.d, .bool c.f.i, .bool c.f.z, .bool c.f.c] 28)).alloc (.cells #[.slice (some ad) xs.length cap] 30)).alloc (.cells #[.int .u8 0, .int .u8 0, .int .u8 0, .int .u8 0, .int .u16 0, .bool false, .bool false, .bool false, .bool false, .bool false, .bool false] 28)) (k := w.heap.size + 1 + 1 + 1) (by simp) 30 #[.slice none 0 0]).later hb1
  clear hb1
  have c0 := k0.cell
  have c1 := k1.cell 0
  go_wp2_with fail
  go_region_held3 (fun w' => (∀ i, w'.cell? ⟨w.heap.size, i, none⟩ = (#[.int .u8 c.a, .int .u8 c.x, .int .u8 c.y, .int .u8 c.s, .int .u16 c.pc, .bool c.f.n, .bool c.f.v, .bool c.f.d, .bool c.f.i, .bool c.f.z, .bool c.f.c] : Array Value)[i]?) ∧ w'.cell? ⟨w.heap.size + 1, 0, none⟩ = some (.slice (some ad) xs.length cap)) (first | exact ⟨c0, c1⟩ | exact ⟨(k0.drew.later hb2).cell, (k1.drew.later hb2).cell 0⟩ | exact ⟨((k0.drew.later hb2).al _).cell, ((k1.drew.later hb2).al _).cell 0⟩) (first | (go_at_call 22; refine (cloned_c ad xs.length cap xs (by omega) _ (HR.out.later (Dn.trans hB1 (Dn.drew w1)))).mono ?_; rintro e w2 ⟨g, cap2, rfl, hown, hb2⟩))
  have hB2 : Below w.heap.size w w2 := Dn.trans hB1 (Dn.trans (Dn.drew w1) hb2)
  have hown2 := own_more hown (b2 := w.heap.size) hB1.size
  have h0 := St.start hG hB2 hc hs hx hown2
  have hg : w1.heap.size ≤ g := (hown.lt g rfl).1
  have hl1 := hB1.size
  have hl3 := k3.lt
  have hb0 : w1.heap.size ≤ w2.heap.size := hb2.size
  have q0 := (k0.drew.later hb2).al (.cells #[.int .u8 c.a, .int .u8 c.x, .int .u8 c.y, .int .u8 c.s, .int .u16 c.pc, .bool c.f.n, .bool c.f.v, .bool c.f.d, .bool c.f.i, .bool c.f.z, .bool c.f.c, .slice (some ⟨g, 0, none⟩) xs.length cap2, .slice none 0 0] 57)
  have q1 := (k1.drew.later hb2).al (.cells #[.int .u8 c.a, .int .u8 c.x, .int .u8 c.y, .int .u8 c.s, .int .u16 c.pc, .bool c.f.n, .bool c.f.v, .bool c.f.d, .bool c.f.i, .bool c.f.z, .bool c.f.c, .slice (some ⟨g, 0, none⟩) xs.length cap2, .slice none 0 0] 57)
  have q2 := (k2.drew.later hb2).al (.cells #[.int .u8 c.a, .int .u8 c.x, .int .u8 c.y, .int .u8 c.s, .int .u16 c.pc, .bool c.f.n, .bool c.f.v, .bool c.f.d, .bool c.f.i, .bool c.f.z, .bool c.f.c, .slice (some ⟨g, 0, none⟩) xs.length cap2, .slice none 0 0] 57)
  have q3 := (k3.drew.later hb2).al (.cells #[.int .u8 c.a, .int .u8 c.x, .int .u8 c.y, .int .u8 c.s, .int .u16 c.pc, .bool c.f.n, .bool c.f.v, .bool c.f.d, .bool c.f.i, .bool c.f.z, .bool c.f.c, .slice (some ⟨g, 0, none⟩) xs.length cap2, .slice none 0 0] 57)
  rename_i hHeld
  clear hHeld c0 c1 k0 k1 k2 k3
  generalize w2.heap.size = b at *
  generalize w2.alloc (.cells #[.int .u8 c.a, .int .u8 c.x, .int .u8 c.y, .int .u8 c.s, .int .u16 c.pc, .bool c.f.n, .bool c.f.v, .bool c.f.d, .bool c.f.i, .bool c.f.z, .bool c.f.c, .slice (some ⟨g, 0, none⟩) xs.length cap2, .slice none 0 0] 57) = w3 at *
  go_wp2_with fail
  refine (serve_c h0.from_ nmi (by simp)).mono ?_
  rintro e w5 ⟨rfl, h5⟩
  have q2 := h5.fr.2 _ _ _ q2 (by omega) (by omega) (by decide)
  have q3 := h5.fr.2 _ _ _ q3 (by omega) (by omega) (by decide)
  have hs5 := h0.trans_ h5
  generalize serveF ⟨c, xs, []⟩ nmi = m at *
  clear h0 h5 q0 q1 hown hown2 hb2 hB2
  have hne2 : b ≠ w.heap.size + 1 + 1 := by omega
  have hne3 : b ≠ w.heap.size + 1 + 1 + 1 := by omega
  obtain ⟨cap6, cv6, zc, zf, zr, zy⟩ := hs5.open_
  have z2 := q2.cell
  have z3 := q3.cell 0
  have zf2 := q2.frozen
  have zf3 := q3.frozen 0
  go_wp2_with fail
  go_region_held3 (fun w' => ∀ i, w'.cell? ⟨b, i, none⟩ = (#[.int .u8 m.c.a, .int .u8 m.c.x, .int .u8 m.c.y, .int .u8 m.c.s, .int .u16 m.c.pc, .bool m.c.f.n, .bool m.c.f.v, .bool m.c.f.d, .bool m.c.f.i, .bool m.c.f.z, .bool m.c.f.c, .slice (some ⟨g, 0, none⟩) m.ram.length cap6, cv6] : Array Value)[i]?) (first | exact zc | (intro i; simp [World.cell?_setCell_other, Ne.symm hne2, Ne.symm hne3, zc])) (fail)
  rename_i hHeld
  clear hHeld
  have g2 : some (w.heap.size + 1 + 1) ≠ (Value.slice (some ⟨g, 0, none⟩) m.ram.length cap6).ownBlock := by simp [Value.ownBlock]; omega
  have g3 : some (w.heap.size + 1 + 1 + 1) ≠ (Value.slice (some ⟨g, 0, none⟩) m.ram.length cap6).ownBlock := by simp [Value.ownBlock]; omega
  have y2 := own_apart zy q2 (by decide)
  have y3 := own_apart zy q3 (by decide)
  have hbe := hs5.bel
  have hok := hs5.cok
  have hby := hs5.byt
  have HSK := Lib.hid hs5.sok
  clear hs5 zc zf q2 q3
  go_wp2
  refine bodyPost_ret (v := .tuple #[.agg #[.int .u8 m.c.a, .int .u8 m.c.x, .int .u8 m.c.y, .int .u8 m.c.s, .int .u16 m.c.pc, .bool m.c.f.n, .bool m.c.f.v, .bool m.c.f.d, .bool m.c.f.i, .bool m.c.f.z, .bool m.c.f.c], .agg #[.slice (some ⟨g, 0, none⟩) m.ram.length cap6], cv6]) (by simp [results, Tryz.results7, go_sem, z2, z3]) rfl ?_
  exact ⟨g, cap6, cv6, rfl, own_far (p := ⟨w.heap.size + 1 + 1 + 1, 0, none⟩) (own_far11 zr g2 _ _ _ _ _ _ _ _ _ _ _) g3 _, own_far (p := ⟨w.heap.size + 1 + 1 + 1, 0, none⟩) (own_far11 zy y2 _ _ _ _ _ _ _ _ _ _ _) y3 _, ((below11 hbe (by omega) _ _ _ _ _ _ _ _ _ _ _).setCell (p := ⟨w.heap.size + 1 + 1 + 1, 0, none⟩) (by simp; omega) _).drew, hok, hby, HSK.out⟩
end Go.Proofs.YtemahcjglmhefaaGreatDoor
