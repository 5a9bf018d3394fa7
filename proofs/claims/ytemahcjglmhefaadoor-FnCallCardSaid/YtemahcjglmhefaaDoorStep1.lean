/- The machine's methods: two reads, bytes onto the stack. No condition. -/
import Derived.Test.YtemahcjglmhefaaDoorMem
import Derived.Test.YtemahcjglmhefaaDoorLeaf
import Derived.Handy
namespace Go.Proofs.YtemahcjglmhefaaDoor
open Go.RowKit
attribute [local irreducible] World.setCell

theorem readTwo_c {B : Nat} {w0 w : World} {b g : Nat} {m : Ms} (h : St B w0 b g m w) (x y : Int) (h0 : 0 ≤ x) (h1 : x < 65536) (h2 : 0 ≤ y) (h3 : y < 65536) (hl : m.cy.length < 999990) :
    Calls Tryd.prog 50 #[.pointer (some ⟨b, 0, none⟩), .int .u16 x, .int .u16 y] w fun e w' => e = .returned (.int .u16 (m.word x y)) ∧ St B w0 b g (m.read2 x y) w' := by
  have a1 := Ms.look_ok h.byt x
  have a2 := Ms.look_ok h.byt y
  go_enter Tryd.func50, Tryd.ntmps50
  go_wp2_with fail
  refine (read_c h x h0 h1 (by omega)).mono ?_
  rintro e w1 ⟨rfl, s1⟩
  go_wp2_with fail
  refine (read_c s1 y h2 h3 (by simp [Ms.read]; omega)).mono ?_
  rintro e w2 ⟨rfl, s2⟩
  go_wp2_with (go_at_call 25; refine (wordOf_c (m.look x) ((m.read x).look y) a1.1 a1.2 a2.1 a2.2 _).mono ?_; rintro e w3 ⟨rfl, rfl⟩)
  go_returns
  exact ⟨rfl, s2⟩
set_option maxHeartbeats 1000000 in
theorem push_c {B : Nat} {w0 w : World} {b g : Nat} {m : Ms} (h : St B w0 b g m w) (k cap : Nat) (xs : List Int) (hx : Byt xs) (hk : Bk w k 5 (nums .u8 xs).toArray) (hkb : k ≠ b) (hkg : k ≠ g) (hl : m.cy.length < 999000) (hn : xs.length ≤ 3) :
    Calls Tryd.prog 48 #[.pointer (some ⟨b, 0, none⟩), .slice (some ⟨k, 0, none⟩) xs.length cap] w fun e w' => e = .returned (.tuple #[]) ∧ St B w0 b g (m.push xs) w' := by
  have s0 := h.from_
  go_enter Tryd.func48, Tryd.ntmps48
  go_wp2_with fail
  go_loopw [5, 8] (fun _ i wr => ∃ j : Nat, j ≤ xs.length ∧ i = .int .i64 j ∧ St B w b g (m.push (xs.take j)) wr) (fun _ i _ => xs.length - (intOf i).toNat)
  case atStart => exact ⟨0, Nat.zero_le _, rfl, s0⟩
  case round =>
    obtain ⟨j, hj, rfl, hs⟩ := hrel
    by_cases hlt : j < xs.length
    · have hkk := hs.fr.2 k _ _ hk hkb hkg (by decide)
      have hv : wr.cell? ⟨k, j, none⟩ = some (.int .u8 (xs.getD j 0)) := by
        rw [hkk.cell]
        simp [nums, hlt]
      have hxv := hx.rd j
      simp only [rd, Int.toNat_natCast] at hxv
      have ht : xs.take (j + 1) = xs.take j ++ [xs.getD j 0] := by
        rw [List.take_succ_eq_append_getElem hlt, List.getD_eq_getElem?_getD, List.getElem?_eq_getElem hlt]
        rfl
      have hp : m.push (xs.take (j + 1)) = (m.push (xs.take j)).push1 (xs.getD j 0) := by rw [ht, Ms.push_snoc]
      have HP := Lib.hid hp
      have hcy : (m.push (xs.take j)).cy.length < 1000000 := by rw [Ms.push_cy, List.length_take]; omega
      obtain ⟨cap', cv, hc, hf, _, _⟩ := hs.open_
      have hc3 := hc 3
      have hsr := hs.cok.2.2.2.1
      generalize xs.getD j 0 = v at *
      generalize m.push (xs.take j) = q at *
      clear ht hp hkk hc hf s0
      have HS := Lib.hid hs
      go_wp2_with (go_at_call 67; refine (stack_c _ hsr.1 hsr.2 _).mono ?_; rintro e w3 ⟨rfl, rfl⟩)
      go_wp2_with fail
      refine (write_c hs (256 + q.c.s) v (by omega) (by omega) hxv hcy).mono ?_
      rintro e w3 ⟨rfl, h3⟩
      obtain ⟨cap3, cv3, kc, kf, _, _⟩ := h3.open_
      have h4 := h3.setS (v := (q.c.s - 1) % 256) (by omega)
      have H4 := Lib.hid h4
      clear h3 h4 hs hv hc3
      have kc3 := kc 3
      have kf3 := kf 3
      clear kc kf
      go_wp2
      go_roundw
      case rel => exact ⟨j + 1, by omega, by go_num, by rw [HP.out]; exact H4.out⟩
      case measure => simp [intOf]; omega
    · go_wp2
      go_returns
      obtain rfl : j = xs.length := by omega
      rw [List.take_length] at hs
      exact ⟨rfl, h.trans_ hs⟩
end Go.Proofs.YtemahcjglmhefaaDoor
