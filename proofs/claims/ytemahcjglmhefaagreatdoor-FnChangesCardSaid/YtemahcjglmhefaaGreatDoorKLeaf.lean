/- The contracts of the small functions: bits, flags, addresses. No condition. More small functions. No condition. -/
import Derived.Test.YtemahcjglmhefaaGreatDoorKBase
import Derived.Deep.RegionHeld3
import Derived.Handy
import Derived.RegionTactic
namespace Go.Proofs.YtemahcjglmhefaaGreatDoor
set_option linter.unusedVariables false
set_option linter.unusedSimpArgs false
open Go.RowKit

theorem one_c (x : Bool) (w : World) : Calls Tryz.prog 105 #[.bool x] w fun e w' => e = .returned (.int .i64 (oneB x)) ∧ w' = w := by
  cases x <;> (go_enter Tryz.func105, Tryz.ntmps105; go_wp2; go_ret; exact ⟨rfl, rfl⟩)
theorem bit_c (x : Bool) (p : Int) (hp : 0 ≤ p) (hp' : p < 8) (w : World) : Calls Tryz.prog 75 #[.bool x, .int .i64 p] w fun e w' => e = .returned (.int .u8 (bitB x p)) ∧ w' = w := by
  obtain h | h | h | h | h | h | h | h : p = 0 ∨ p = 1 ∨ p = 2 ∨ p = 3 ∨ p = 4 ∨ p = 5 ∨ p = 6 ∨ p = 7 := by omega
  all_goals (subst h; cases x <;> (go_enter Tryz.func75, Tryz.ntmps75; go_wp2; go_ret; exact ⟨rfl, rfl⟩))
theorem has_c (b p : Int) (hb : 0 ≤ b) (hb' : b < 256) (hp : 0 ≤ p) (hp' : p < 8) (w : World) : Calls Tryz.prog 99 #[.int .u8 b, .int .i64 p] w fun e w' => e = .returned (.bool (hasB b p)) ∧ w' = w := by
  have HH := Lib.hid (hasB_bits b p hb hb')
  go_enter Tryz.func99, Tryz.ntmps99
  go_wp2
  go_ret
  exact ⟨by rw [← HH.out]; rfl, rfl⟩
theorem NZ_c (b : Int) (f : Fl) (hb : 0 ≤ b) (hb' : b < 256) (w : World) :
    Calls Tryz.prog 80 #[.int .u8 b, .agg #[.bool f.n, .bool f.v, .bool f.d, .bool f.i, .bool f.z, .bool f.c]] w fun e w' => e = .returned (.agg #[.bool (hasB b 7), .bool f.v, .bool f.d, .bool f.i, .bool (b == 0), .bool f.c]) ∧ Below w.heap.size w w' := by
  go_enter Tryz.func80, Tryz.ntmps80
  go_wp2_with (go_at_call 99; refine (has_c _ _ hb hb' (by omega) (by omega) _).mono ?_; rintro e w1 ⟨rfl, rfl⟩)
  refine bodyPost_ret (v := .agg #[.bool (hasB b 7), .bool f.v, .bool f.d, .bool f.i, .bool (b == 0), .bool f.c]) (by simp [results, Tryz.results80, go_sem]) rfl ⟨rfl, ?_⟩
  exact Bl.al (Bl.al (Below.refl _ _) (Nat.le_refl _) _) (Nat.le_refl _) _
theorem wordOf_c (lo hi : Int) (h0 : 0 ≤ lo) (h1 : lo < 256) (h2 : 0 ≤ hi) (h3 : hi < 256) (w : World) :
    Calls Tryz.prog 76 #[.int .u8 lo, .int .u8 hi] w fun e w' => e = .returned (.int .u16 (hi * 256 + lo)) ∧ w' = w := by
  have HH := Lib.hid (word_or lo hi h0 h1 h2 h3)
  go_enter Tryz.func76, Tryz.ntmps76
  go_wp2
  go_ret
  exact ⟨by rw [← HH.out]; rfl, rfl⟩
theorem stack_c (s : Int) (h0 : 0 ≤ s) (h1 : s < 256) (w : World) : Calls Tryz.prog 74 #[.int .u8 s] w fun e w' => e = .returned (.int .u16 (256 + s)) ∧ w' = w := by
  go_enter Tryz.func74, Tryz.ntmps74
  go_wp2
  go_ret
  exact ⟨by rfl, rfl⟩
theorem isTaken_c (s : ByteArray) (f : Fl) (w : World) :
    Calls Tryz.prog 100 #[.string s, .agg #[.bool f.n, .bool f.v, .bool f.d, .bool f.i, .bool f.z, .bool f.c]] w fun e w' => e = .returned (.bool (takenF s.toList f)) ∧ Below w.heap.size w w' := by
  go_enter Tryz.func100, Tryz.ntmps100
  go_wp2
  all_goals (go_ret; exact ⟨by simp [takenF, *], (Below.refl _ _).alloc (Nat.le_refl _) _⟩)
theorem target_c (pc o : Int) (h0 : 0 ≤ pc) (h1 : pc < 65536) (h2 : 0 ≤ o) (h3 : o < 256) (w : World) :
    Calls Tryz.prog 101 #[.int .u16 pc, .int .u8 o] w fun e w' => e = .returned (.int .u16 (targetF pc o)) ∧ w' = w := by
  have HH := Lib.hid (target_eq pc o h0 h1 h2 h3)
  go_enter Tryz.func101, Tryz.ntmps101
  go_wp2
  go_ret
  exact ⟨by rw [← HH.out]; rfl, rfl⟩
theorem isRamSize_c (n : Int) (w : World) : Calls Tryz.prog 42 #[.int .i64 n] w fun e w' => e = .returned (.bool (okSizeB n)) ∧ w' = w := by
  go_enter Tryz.func42, Tryz.ntmps42
  go_wp2
  all_goals (go_ret; exact ⟨by simp [okSizeB, *], rfl⟩)
theorem RamOk_c (A : Option Addr) (n c : Nat) (hn : n ≤ 9223372036854775807) (w : World) : Calls Tryz.prog 21 #[.agg #[.slice A n c]] w fun e w' => e = .returned (.bool (okSizeB n)) ∧ Below w.heap.size w w' := by
  go_enter Tryz.func21, Tryz.ntmps21
  go_wp2_with (go_at_call 42; refine (isRamSize_c _ _).mono ?_; rintro e w1 ⟨rfl, rfl⟩)
  go_ret
  exact ⟨rfl, Bl.al (Below.refl _ _) (Nat.le_refl _) _⟩
theorem at_c (A : Option Addr) (n c : Nat) (a : Int) (h0 : 0 ≤ a) (h1 : a < 65536) (hn : 0 < n) (hn' : n ≤ 9223372036854775807) (w : World) :
    Calls Tryz.prog 52 #[.agg #[.slice A n c], .int .u16 a] w fun e w' => e = .returned (.int .i64 (a % n)) ∧ Below w.heap.size w w' := by
  go_enter Tryz.func52, Tryz.ntmps52
  go_wp2
  go_ret
  exact ⟨rfl, Bl.al (Below.refl _ _) (Nat.le_refl _) _⟩
theorem PackP_c (f : Fl) (brk : Bool) (w : World) :
    Calls Tryz.prog 46 #[.agg #[.bool f.n, .bool f.v, .bool f.d, .bool f.i, .bool f.z, .bool f.c], .bool brk] w fun e w' => e = .returned (.int .u8 (packF f brk)) ∧ Below w.heap.size w w' := by
  have HH := Lib.hid (pack_eq f brk)
  go_enter Tryz.func46, Tryz.ntmps46
  go_wp2_with fail
  go_quiet ((go_at_call 75; exact Calls.quiet_of_same (bit_c _ _ (by omega) (by omega) _)))
  go_wp2
  go_ret
  exact ⟨by rw [← HH.out]; rfl, Bl.drewN (Bl.al (Below.refl _ _) (Nat.le_refl _) _) _⟩
end Go.Proofs.YtemahcjglmhefaaGreatDoor
namespace Go.Proofs.YtemahcjglmhefaaGreatDoor
set_option linter.unusedVariables false
set_option linter.unusedSimpArgs false
open Go.RowKit

theorem UnpackP_c (b : Int) (h0 : 0 ≤ b) (h1 : b < 256) (w : World) : Calls Tryz.prog 82 #[.int .u8 b] w fun e w' => e = .returned (.agg #[.bool (hasB b 7), .bool (hasB b 6), .bool (hasB b 3), .bool (hasB b 2), .bool (hasB b 1), .bool (hasB b 0)]) ∧ Below w.heap.size w w' := by
  go_enter Tryz.func82, Tryz.ntmps82
  go_wp2_with (go_at_call 99; refine (has_c _ _ h0 h1 (by omega) (by omega) _).mono ?_; rintro e w1 ⟨rfl, rfl⟩)
  go_returns
  exact ⟨rfl, by go_grown⟩
theorem Peek_c (A : Option Addr) (n c : Nat) (xs : List Int) (a : Int) (h0 : 0 ≤ a) (h1 : a < 65536) (hs : okSize n) (w : World) (hr : Rds w .u8 A n xs) :
    Calls Tryz.prog 54 #[.agg #[.slice A n c], .int .u16 a] w fun e w' => e = .returned (.int .u8 (rd xs (a % n))) ∧ Below w.heap.size w w' := by
  have hn : 0 < n ∧ n ≤ 4096 := by unfold okSize at hs; omega
  obtain ⟨ad, rfl, hc⟩ := hr.at_ (a % n) (Int.emod_nonneg _ (by omega)) (Int.emod_lt_of_pos _ (by omega))
  have hlt := World.block_lt_of_cell? w _ hc
  have HS := Lib.hid ((okSizeB_iff n).2 hs)
  clear hs hr
  go_enter Tryz.func54, Tryz.ntmps54
  go_wp2_with fail
  refine (RamOk_c _ _ _ (by omega) _).mono ?_
  rintro e w1 ⟨rfl, hb1⟩
  rw [HS.out]
  have k1 := (Bk.new w 30 #[.slice (some ad) n c]).later hb1
  have c1 := (hb1.cell (p := ad.add (a % n).toNat) (by simp; omega)).trans ((World.cell?_alloc_lt w _ _ hlt).trans hc)
  have j0 := k1.cell 0
  have g0 := World.block_lt_of_cell? _ _ c1
  have g1 := k1.lt
  have i0 : 0 ≤ a % (n : Int) := Int.emod_nonneg _ (by omega)
  have i1 : a % (n : Int) < (n : Int) := Int.emod_lt_of_pos _ (by omega)
  go_wp2_with fail
  go_region_held3 (fun w' => w'.cell? ⟨w.heap.size, 0, none⟩ = some (.slice (some ad) n c) ∧ w'.cell? (ad.add (a % n).toNat) = some (.int .u8 (rd xs (a % n)))) (first | exact ⟨j0, c1⟩ | exact ⟨(hb2.cell g1).trans j0, (hb2.cell g0).trans c1⟩) (first | (go_at_call 52; refine (at_c _ _ _ _ h0 h1 hn.1 (by omega) _).mono ?_; rintro e w2 ⟨rfl, hb2⟩))
  go_wp2
  go_ret
  exact ⟨rfl, Dn.trans (Dn.al w _) (Dn.trans hb1 (Dn.trans (Dn.drew w1) hb2))⟩
theorem Peek_no (A : Option Addr) (n c : Nat) (a : Int) (hn : n ≤ 9223372036854775807) (hs : ¬ okSize n) (w : World) :
    Calls Tryz.prog 54 #[.agg #[.slice A n c], .int .u16 a] w fun e w' => e = .returned (.int .u8 0) ∧ Below w.heap.size w w' := by
  have HS : Hid (okSizeB n = false) := Bool.eq_false_iff.2 fun h => hs ((okSizeB_iff n).1 h)
  clear hs
  go_enter Tryz.func54, Tryz.ntmps54
  go_wp2_with fail
  refine (RamOk_c _ _ _ hn _).mono ?_
  rintro e w1 ⟨rfl, hb1⟩
  rw [HS.out]
  go_wp2_with fail
  go_ret
  exact ⟨rfl, Bl.then_ (Bl.al (Below.refl _ _) (Nat.le_refl _) _) (by simp) hb1⟩
set_option maxHeartbeats 400000 in
theorem Cmp_c (a b : Int) (f : Fl) (h0 : 0 ≤ a) (h1 : a < 256) (h2 : 0 ≤ b) (h3 : b < 256) (w : World) :
    Calls Tryz.prog 93 #[.int .u8 a, .int .u8 b, .agg #[.bool f.n, .bool f.v, .bool f.d, .bool f.i, .bool f.z, .bool f.c]] w fun e w' => e = .returned (.agg #[.bool (cmpF a b f).n, .bool (cmpF a b f).v, .bool (cmpF a b f).d, .bool (cmpF a b f).i, .bool (cmpF a b f).z, .bool (cmpF a b f).c]) ∧ Below w.heap.size w w' := by
  go_enter Tryz.func93, Tryz.ntmps93
  go_wp2_with (first | (go_at_call 99; refine (has_c _ _ (by omega) (by omega) (by omega) (by omega) _).mono ?_; rintro e w1 ⟨rfl, rfl⟩) | go_in)
  go_returns
  exact ⟨by simp [cmpF, nzF], by go_grown⟩
set_option maxHeartbeats 400000 in
theorem moved_c (b : Int) (o : Bool) (f : Fl) (h0 : 0 ≤ b) (h1 : b < 256) (w : World) :
    Calls Tryz.prog 106 #[.int .u8 b, .bool o, .agg #[.bool f.n, .bool f.v, .bool f.d, .bool f.i, .bool f.z, .bool f.c]] w fun e w' => e = .returned (.tuple #[.int .u8 b, .agg #[.bool (movedF b o f).n, .bool (movedF b o f).v, .bool (movedF b o f).d, .bool (movedF b o f).i, .bool (movedF b o f).z, .bool (movedF b o f).c]]) ∧ Below w.heap.size w w' := by
  go_enter Tryz.func106, Tryz.ntmps106
  go_wp2_with (first | (go_at_call 99; refine (has_c _ _ (by omega) (by omega) (by omega) (by omega) _).mono ?_; rintro e w1 ⟨rfl, rfl⟩) | go_in)
  go_region
  all_goals go_wp2
  all_goals go_returns
  exact ⟨by simp [movedF, nzF], by go_grown⟩
theorem bx (x y : Bool) : (x == y) = ((!x) != y) := by cases x <;> cases y <;> rfl
set_option maxHeartbeats 1000000 in
theorem Adc_c (a b : Int) (f : Fl) (h0 : 0 ≤ a) (h1 : a < 256) (h2 : 0 ≤ b) (h3 : b < 256) (w : World) :
    Calls Tryz.prog 91 #[.int .u8 a, .int .u8 b, .agg #[.bool f.n, .bool f.v, .bool f.d, .bool f.i, .bool f.z, .bool f.c]] w fun e w' => e = .returned (.tuple #[.int .u8 (adcF a b f).1, .agg #[.bool ((adcF a b f).2).n, .bool ((adcF a b f).2).v, .bool ((adcF a b f).2).d, .bool ((adcF a b f).2).i, .bool ((adcF a b f).2).z, .bool ((adcF a b f).2).c]]) ∧ Below w.heap.size w w' := by
  have ho := oneB_le f.c
  have a1 := and240_eq a h0 h1
  have a2 := and240_eq b h2 h3
  have a3 := and15_eq a h0 h1
  have a4 := and15_eq b h2 h3
  have a5 := and15_i64 (a % 16 + b % 16 + oneB f.c + 6) (by omega) (by omega)
  obtain ⟨n, v, d, i, z, c⟩ := f
  cases d
  · clear a1 a2 a3 a4 a5
    go_enter Tryz.func91, Tryz.ntmps91
    go_wp2_with (first | (go_at_call 99; refine (has_c _ _ (by omega) (by omega) (by omega) (by omega) _).mono ?_; rintro e w1 ⟨rfl, rfl⟩) | (go_at_call 105; refine (one_c _ _).mono ?_; rintro e w1 ⟨rfl, rfl⟩) | go_in)
    all_goals go_region
    all_goals go_wp2
    all_goals go_returns
    all_goals exact ⟨by simp [adcF, nzF, bx, *], by go_grown⟩
  by_cases t1 : 10 ≤ (a % 16 + b % 16 + oneB c)
  · by_cases t2 : 160 ≤ a / 16 * 16 + b / 16 * 16 + (((a % 16 + b % 16 + oneB c) + 6) % 16 + 16)
    · have T1 := Lib.hid t1
      have T2 := Lib.hid t2
      go_enter Tryz.func91, Tryz.ntmps91
      go_wp2_with (first | (go_at_call 99; refine (has_c _ _ (by omega) (by omega) (by omega) (by omega) _).mono ?_; rintro e w1 ⟨rfl, rfl⟩) | (go_at_call 105; refine (one_c _ _).mono ?_; rintro e w1 ⟨rfl, rfl⟩) | go_in)
      all_goals go_region
      all_goals go_wp2
      all_goals go_returns
      all_goals
        have q1 := T1.out; have q2 := T2.out
        exact ⟨by simp [adcF, nzF, bx, q1, q2, *], by go_grown⟩
    · have T1 := Lib.hid t1
      have T2 := Lib.hid t2; simp only [Int.not_le] at t2
      go_enter Tryz.func91, Tryz.ntmps91
      go_wp2_with (first | (go_at_call 99; refine (has_c _ _ (by omega) (by omega) (by omega) (by omega) _).mono ?_; rintro e w1 ⟨rfl, rfl⟩) | (go_at_call 105; refine (one_c _ _).mono ?_; rintro e w1 ⟨rfl, rfl⟩) | go_in)
      all_goals go_region
      all_goals go_wp2
      all_goals go_returns
      all_goals
        have q1 := T1.out; have q2 := Int.not_le.2 t2
        have q3 : (a + b + oneB c) % 256 = a + b + oneB c := by omega
        have q4 : (a / 16 * 16 + b / 16 * 16 + (((a % 16 + b % 16 + oneB c) + 6) % 16 + 16)) % 256 = a / 16 * 16 + b / 16 * 16 + (((a % 16 + b % 16 + oneB c) + 6) % 16 + 16) := by omega
        exact ⟨by simp [adcF, nzF, bx, q1, q2, *], by go_grown⟩
  · by_cases t2 : 160 ≤ a / 16 * 16 + b / 16 * 16 + (a % 16 + b % 16 + oneB c)
    · have T1 := Lib.hid t1; simp only [Int.not_le] at t1
      have T2 := Lib.hid t2
      go_enter Tryz.func91, Tryz.ntmps91
      go_wp2_with (first | (go_at_call 99; refine (has_c _ _ (by omega) (by omega) (by omega) (by omega) _).mono ?_; rintro e w1 ⟨rfl, rfl⟩) | (go_at_call 105; refine (one_c _ _).mono ?_; rintro e w1 ⟨rfl, rfl⟩) | go_in)
      all_goals go_region
      all_goals go_wp2
      all_goals go_returns
      all_goals
        have q1 := Int.not_le.2 t1; have q2 := T2.out
        exact ⟨by simp [adcF, nzF, bx, q1, q2, *], by go_grown⟩
    · have T1 := Lib.hid t1; simp only [Int.not_le] at t1
      have T2 := Lib.hid t2; simp only [Int.not_le] at t2
      go_enter Tryz.func91, Tryz.ntmps91
      go_wp2_with (first | (go_at_call 99; refine (has_c _ _ (by omega) (by omega) (by omega) (by omega) _).mono ?_; rintro e w1 ⟨rfl, rfl⟩) | (go_at_call 105; refine (one_c _ _).mono ?_; rintro e w1 ⟨rfl, rfl⟩) | go_in)
      all_goals go_region
      all_goals go_wp2
      all_goals go_returns
      all_goals
        have q1 := Int.not_le.2 t1; have q2 := Int.not_le.2 t2
        have q3 : (a + b + oneB c) % 256 = a + b + oneB c := by omega
        have q4 : (a / 16 * 16 + b / 16 * 16 + (a % 16 + b % 16 + oneB c)) % 256 = a / 16 * 16 + b / 16 * 16 + (a % 16 + b % 16 + oneB c) := by omega
        exact ⟨by simp [adcF, nzF, bx, q1, q2, *], by go_grown⟩
end Go.Proofs.YtemahcjglmhefaaGreatDoor
