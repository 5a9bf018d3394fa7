/- The machine's methods: a branch, the ways of PC, the stack. No condition. -/
import Derived.Test.YtemahcjglmhefaaDoorPlace2
namespace Go.Proofs.YtemahcjglmhefaaDoor
open Go.RowKit
attribute [local irreducible] World.setCell

@[go_sem] theorem setPC_look (m : Ms) (v a : Int) : (m.setPC v).look a = m.look a := rfl
@[go_sem] theorem setS_look (m : Ms) (v a : Int) : (m.setS v).look a = m.look a := rfl
@[go_sem] theorem setF_look (m : Ms) (f : Fl) (a : Int) : (m.setF f).look a = m.look a := rfl
@[go_sem] theorem setPC_pc (m : Ms) (v : Int) : (m.setPC v).c.pc = v := rfl
@[go_sem] theorem setPC_f (m : Ms) (v : Int) : (m.setPC v).c.f = m.c.f := rfl
@[go_sem] theorem setPC_s (m : Ms) (v : Int) : (m.setPC v).c.s = m.c.s := rfl
@[go_sem] theorem setPC_a (m : Ms) (v : Int) : (m.setPC v).c.a = m.c.a := rfl
@[go_sem] theorem setF_pc (m : Ms) (f : Fl) : (m.setF f).c.pc = m.c.pc := rfl
@[go_sem] theorem setF_s (m : Ms) (f : Fl) : (m.setF f).c.s = m.c.s := rfl
@[go_sem] theorem setF_f (m : Ms) (f : Fl) : (m.setF f).c.f = f := rfl
@[go_sem] theorem setS_s (m : Ms) (v : Int) : (m.setS v).c.s = v := rfl
@[go_sem] theorem setS_pc (m : Ms) (v : Int) : (m.setS v).c.pc = m.c.pc := rfl
@[go_sem] theorem setS_f (m : Ms) (v : Int) : (m.setS v).c.f = m.c.f := rfl
theorem St.setPC' {B : Nat} {w0 w : World} {b g : Nat} {m : Ms} (h : St B w0 b g m w) {v : Int} (hv : 0 ≤ v ∧ v < 65536) : St B w0 b g (m.setPC v) (w.setCell ⟨b, 4, none⟩ (.int .u16 v)) := h.setPC hv
theorem St.setS' {B : Nat} {w0 w : World} {b g : Nat} {m : Ms} (h : St B w0 b g m w) {v : Int} (hv : 0 ≤ v ∧ v < 256) : St B w0 b g (m.setS v) (w.setCell ⟨b, 3, none⟩ (.int .u8 v)) := h.setS hv
theorem isTaken_l (l : List UInt8) (f : Fl) (w : World) :
    Calls Tryd.prog 86 #[.string ⟨l.toArray⟩, .agg #[.bool f.n, .bool f.v, .bool f.d, .bool f.i, .bool f.z, .bool f.c]] w fun e w' => e = .returned (.bool (takenF l f)) ∧ Below w.heap.size w w' := by
  have h := isTaken_c ⟨l.toArray⟩ f w
  have e : (⟨l.toArray⟩ : ByteArray).toList = l := by simp
  rw [e] at h
  exact h
set_option maxHeartbeats 1000000 in
set_option maxRecDepth 100000 in
theorem branch_c {B : Nat} {w0 w : World} {b g : Nat} {m : Ms} (h : St B w0 b g m w) (l : List UInt8) (hl : m.cy.length < 900000) :
    Calls Tryd.prog 69 #[.pointer (some ⟨b, 0, none⟩), .string ⟨l.toArray⟩] w fun e w' => e = .returned (.tuple #[]) ∧ St B w0 b g (branchF l m) w' := by
  have hA := h.cok
  have p1 := wrap_u16 (m.c.pc + 1)
  have p2 := wrap_u16 (m.c.pc + 2)
  have o1 := u16_ok (m.c.pc + 1)
  have o2 := u16_ok (m.c.pc + 2)
  have hz := Ms.look_ok h.byt (u16 (m.c.pc + 1))
  obtain ⟨cap, cv, hc, hf, _, _⟩ := h.open_
  unfold Cp.ok at hA
  have q1 : IntKind.u16.wrap (u16 (m.c.pc + 2) - 2) = m.c.pc := by rw [wrap_u16]; unfold u16; omega
  have o3 := target_ok m.c.pc (m.look (u16 (m.c.pc + 1)))
  have q4 := page_eq (u16 (m.c.pc + 2)) (targetF m.c.pc (m.look (u16 (m.c.pc + 1)))) o2.1 o2.2 o3.1 o3.2
  have o4 := page_ok (u16 (m.c.pc + 2)) (targetF m.c.pc (m.look (u16 (m.c.pc + 1)))) o2.1 o2.2
  cases ht : takenF l m.c.f
  · have HT := Lib.hid ht
    have HB : Hid (branchF l m = _) := if_neg (by rw [ht]; decide)
    clear ht
    go_enter Tryd.func69, Tryd.ntmps69
    go_wp2_with fail
    refine (read_c h (u16 (m.c.pc + 1)) (u16_ok _).1 (u16_ok _).2 (by first | omega | (simp; omega))).mono ?_
    rintro e w1 ⟨rfl, s1⟩
    obtain ⟨cap1, cv1, s1c, s1f, _, _⟩ := s1.open_
    have s2 := s1.setPC' o2
    go_wp2_with fail
    refine (isTaken_l l m.c.f _).mono ?_
    rintro e w3 ⟨rfl, hb3⟩
    have s3 := s2.later hb3
    obtain ⟨cap3, cv3, s3c, s3f, _, _⟩ := s3.open_
    clear s2 hb3
    have S3 := Lib.hid s3
    rw [HT.out]
    go_wp2
    go_returns
    rw [HB.out]
    exact ⟨rfl, S3.out⟩
  · have HT := Lib.hid ht
    by_cases kp : (pageOf (u16 (m.c.pc + 2)) (targetF m.c.pc (m.look (u16 (m.c.pc + 1))))) = (targetF m.c.pc (m.look (u16 (m.c.pc + 1))))
    · have t2 : ((pageOf (u16 (m.c.pc + 2)) (targetF m.c.pc (m.look (u16 (m.c.pc + 1))))) == (targetF m.c.pc (m.look (u16 (m.c.pc + 1))))) = true := by simpa using kp
      have HB : Hid (branchF l m = _) := (if_pos ht).trans (congrArg (fun q : Ms => q.setPC (targetF m.c.pc (m.look (u16 (m.c.pc + 1))))) (if_neg (fun k => k kp)))
      clear ht kp
      go_enter Tryd.func69, Tryd.ntmps69
      go_wp2_with fail
      refine (read_c h (u16 (m.c.pc + 1)) (u16_ok _).1 (u16_ok _).2 (by first | omega | (simp; omega))).mono ?_
      rintro e w1 ⟨rfl, s1⟩
      obtain ⟨cap1, cv1, s1c, s1f, _, _⟩ := s1.open_
      have s2 := s1.setPC' o2
      go_wp2_with fail
      refine (isTaken_l l m.c.f _).mono ?_
      rintro e w3 ⟨rfl, hb3⟩
      have s3 := s2.later hb3
      obtain ⟨cap3, cv3, s3c, s3f, _, _⟩ := s3.open_
      clear s2 hb3
      rw [HT.out]
      go_wp2_with fail
      refine (read_c s3 (u16 (m.c.pc + 2)) o2.1 o2.2 (by first | omega | (simp; omega))).mono ?_
      rintro e w4 ⟨rfl, s4⟩
      obtain ⟨cap4, cv4, s4c, s4f, _, _⟩ := s4.open_
      go_wp2_with fail
      refine (target_c m.c.pc (m.look (u16 (m.c.pc + 1))) (by omega) (by omega) hz.1 hz.2 _).mono ?_
      rintro e w5 ⟨rfl, rfl⟩
      have s5 := s4.setPC' o3
      have S5 := Lib.hid s5
      clear s5
      go_wp2
      go_returns
      rw [HB.out]
      exact ⟨rfl, S5.out⟩
    · have t2 : ((pageOf (u16 (m.c.pc + 2)) (targetF m.c.pc (m.look (u16 (m.c.pc + 1))))) == (targetF m.c.pc (m.look (u16 (m.c.pc + 1))))) = false := by simpa using kp
      have HB : Hid (branchF l m = _) := (if_pos ht).trans (congrArg (fun q : Ms => q.setPC (targetF m.c.pc (m.look (u16 (m.c.pc + 1))))) (if_pos kp))
      clear ht kp
      go_enter Tryd.func69, Tryd.ntmps69
      go_wp2_with fail
      refine (read_c h (u16 (m.c.pc + 1)) (u16_ok _).1 (u16_ok _).2 (by first | omega | (simp; omega))).mono ?_
      rintro e w1 ⟨rfl, s1⟩
      obtain ⟨cap1, cv1, s1c, s1f, _, _⟩ := s1.open_
      have s2 := s1.setPC' o2
      go_wp2_with fail
      refine (isTaken_l l m.c.f _).mono ?_
      rintro e w3 ⟨rfl, hb3⟩
      have s3 := s2.later hb3
      obtain ⟨cap3, cv3, s3c, s3f, _, _⟩ := s3.open_
      clear s2 hb3
      rw [HT.out]
      go_wp2_with fail
      refine (read_c s3 (u16 (m.c.pc + 2)) o2.1 o2.2 (by first | omega | (simp; omega))).mono ?_
      rintro e w4 ⟨rfl, s4⟩
      obtain ⟨cap4, cv4, s4c, s4f, _, _⟩ := s4.open_
      go_wp2_with fail
      refine (target_c m.c.pc (m.look (u16 (m.c.pc + 1))) (by omega) (by omega) hz.1 hz.2 _).mono ?_
      rintro e w5 ⟨rfl, rfl⟩
      go_wp2_with fail
      refine (read_c s4 (pageOf (u16 (m.c.pc + 2)) (targetF m.c.pc (m.look (u16 (m.c.pc + 1))))) o4.1 o4.2 (by first | omega | (simp; omega))).mono ?_
      rintro e w6 ⟨rfl, s6⟩
      obtain ⟨cap6, cv6, s6c, s6f, _, _⟩ := s6.open_
      have s7 := s6.setPC' o3
      have S7 := Lib.hid s7
      clear s7
      go_wp2
      go_returns
      rw [HB.out]
      exact ⟨rfl, S7.out⟩
end Go.Proofs.YtemahcjglmhefaaDoor
