/- The contracts of the small functions: bits, flags, addresses. No condition. -/
import Derived.Test.YtemahcjglmhefaaDoorBase
import Derived.Test.YtemahcjglmhefaaDoorPure
namespace Go.Proofs.YtemahcjglmhefaaDoor
open Go.RowKit

theorem one_c (x : Bool) (w : World) : Calls Tryd.prog 92 #[.bool x] w fun e w' => e = .returned (.int .i64 (oneB x)) ∧ w' = w := by
  cases x <;> (go_enter Tryd.func92, Tryd.ntmps92; go_wp2; go_ret; exact ⟨rfl, rfl⟩)
theorem bit_c (x : Bool) (p : Int) (hp : 0 ≤ p) (hp' : p < 8) (w : World) : Calls Tryd.prog 71 #[.bool x, .int .i64 p] w fun e w' => e = .returned (.int .u8 (bitB x p)) ∧ w' = w := by
  obtain h | h | h | h | h | h | h | h : p = 0 ∨ p = 1 ∨ p = 2 ∨ p = 3 ∨ p = 4 ∨ p = 5 ∨ p = 6 ∨ p = 7 := by omega
  all_goals (subst h; cases x <;> (go_enter Tryd.func71, Tryd.ntmps71; go_wp2; go_ret; exact ⟨rfl, rfl⟩))
theorem has_c (b p : Int) (hb : 0 ≤ b) (hb' : b < 256) (hp : 0 ≤ p) (hp' : p < 8) (w : World) : Calls Tryd.prog 85 #[.int .u8 b, .int .i64 p] w fun e w' => e = .returned (.bool (hasB b p)) ∧ w' = w := by
  have HH := Lib.hid (hasB_bits b p hb hb')
  go_enter Tryd.func85, Tryd.ntmps85
  go_wp2
  go_ret
  exact ⟨by rw [← HH.out]; rfl, rfl⟩
theorem NZ_c (b : Int) (f : Fl) (hb : 0 ≤ b) (hb' : b < 256) (w : World) :
    Calls Tryd.prog 64 #[.int .u8 b, .agg #[.bool f.n, .bool f.v, .bool f.d, .bool f.i, .bool f.z, .bool f.c]] w fun e w' => e = .returned (.agg #[.bool (hasB b 7), .bool f.v, .bool f.d, .bool f.i, .bool (b == 0), .bool f.c]) ∧ Below w.heap.size w w' := by
  go_enter Tryd.func64, Tryd.ntmps64
  go_wp2_with (go_at_call 85; refine (has_c _ _ hb hb' (by omega) (by omega) _).mono ?_; rintro e w1 ⟨rfl, rfl⟩)
  refine bodyPost_ret (v := .agg #[.bool (hasB b 7), .bool f.v, .bool f.d, .bool f.i, .bool (b == 0), .bool f.c]) (by simp [results, Tryd.results64, go_sem]) rfl ⟨rfl, ?_⟩
  exact Bl.al (Bl.al (Below.refl _ _) (Nat.le_refl _) _) (Nat.le_refl _) _
theorem wordOf_c (lo hi : Int) (h0 : 0 ≤ lo) (h1 : lo < 256) (h2 : 0 ≤ hi) (h3 : hi < 256) (w : World) :
    Calls Tryd.prog 25 #[.int .u8 lo, .int .u8 hi] w fun e w' => e = .returned (.int .u16 (hi * 256 + lo)) ∧ w' = w := by
  have HH := Lib.hid (word_or lo hi h0 h1 h2 h3)
  go_enter Tryd.func25, Tryd.ntmps25
  go_wp2
  go_ret
  exact ⟨by rw [← HH.out]; rfl, rfl⟩
theorem stack_c (s : Int) (h0 : 0 ≤ s) (h1 : s < 256) (w : World) : Calls Tryd.prog 67 #[.int .u8 s] w fun e w' => e = .returned (.int .u16 (256 + s)) ∧ w' = w := by
  go_enter Tryd.func67, Tryd.ntmps67
  go_wp2
  go_ret
  exact ⟨by rfl, rfl⟩
theorem isTaken_c (s : ByteArray) (f : Fl) (w : World) :
    Calls Tryd.prog 86 #[.string s, .agg #[.bool f.n, .bool f.v, .bool f.d, .bool f.i, .bool f.z, .bool f.c]] w fun e w' => e = .returned (.bool (takenF s.toList f)) ∧ Below w.heap.size w w' := by
  go_enter Tryd.func86, Tryd.ntmps86
  go_wp2
  all_goals (go_ret; exact ⟨by simp [takenF, *], (Below.refl _ _).alloc (Nat.le_refl _) _⟩)
theorem target_c (pc o : Int) (h0 : 0 ≤ pc) (h1 : pc < 65536) (h2 : 0 ≤ o) (h3 : o < 256) (w : World) :
    Calls Tryd.prog 87 #[.int .u16 pc, .int .u8 o] w fun e w' => e = .returned (.int .u16 (targetF pc o)) ∧ w' = w := by
  have HH := Lib.hid (target_eq pc o h0 h1 h2 h3)
  go_enter Tryd.func87, Tryd.ntmps87
  go_wp2
  go_ret
  exact ⟨by rw [← HH.out]; rfl, rfl⟩
theorem isRamSize_c (n : Int) (w : World) : Calls Tryd.prog 36 #[.int .i64 n] w fun e w' => e = .returned (.bool (okSizeB n)) ∧ w' = w := by
  go_enter Tryd.func36, Tryd.ntmps36
  go_wp2
  all_goals (go_ret; exact ⟨by simp [okSizeB, *], rfl⟩)
theorem RamOk_c (A : Option Addr) (n c : Nat) (hn : n ≤ 9223372036854775807) (w : World) : Calls Tryd.prog 21 #[.agg #[.slice A n c]] w fun e w' => e = .returned (.bool (okSizeB n)) ∧ Below w.heap.size w w' := by
  go_enter Tryd.func21, Tryd.ntmps21
  go_wp2_with (go_at_call 36; refine (isRamSize_c _ _).mono ?_; rintro e w1 ⟨rfl, rfl⟩)
  go_ret
  exact ⟨rfl, Bl.al (Below.refl _ _) (Nat.le_refl _) _⟩
theorem at_c (A : Option Addr) (n c : Nat) (a : Int) (h0 : 0 ≤ a) (h1 : a < 65536) (hn : 0 < n) (hn' : n ≤ 9223372036854775807) (w : World) :
    Calls Tryd.prog 23 #[.agg #[.slice A n c], .int .u16 a] w fun e w' => e = .returned (.int .i64 (a % n)) ∧ Below w.heap.size w w' := by
  go_enter Tryd.func23, Tryd.ntmps23
  go_wp2
  go_ret
  exact ⟨rfl, Bl.al (Below.refl _ _) (Nat.le_refl _) _⟩
theorem PackP_c (f : Fl) (brk : Bool) (w : World) :
    Calls Tryd.prog 49 #[.agg #[.bool f.n, .bool f.v, .bool f.d, .bool f.i, .bool f.z, .bool f.c], .bool brk] w fun e w' => e = .returned (.int .u8 (packF f brk)) ∧ Below w.heap.size w w' := by
  have HH := Lib.hid (pack_eq f brk)
  go_enter Tryd.func49, Tryd.ntmps49
  go_wp2_with fail
  go_quiet ((go_at_call 71; exact Calls.quiet_of_same (bit_c _ _ (by omega) (by omega) _)))
  go_wp2
  go_ret
  exact ⟨by rw [← HH.out]; rfl, Bl.drewN (Bl.al (Below.refl _ _) (Nat.le_refl _) _) _⟩
end Go.Proofs.YtemahcjglmhefaaDoor
