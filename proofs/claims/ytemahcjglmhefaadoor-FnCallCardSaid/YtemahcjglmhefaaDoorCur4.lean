/- Draws of operations' bytes. No condition. -/
import Derived.Test.YtemahcjglmhefaaDoorCur3
namespace Go.Proofs.YtemahcjglmhefaaDoor
open Go.RowKit
attribute [local irreducible] World.setCell
section
variable {w0 w w1 w2 : World} {A : Option Addr} {n cap : Nat} {xs : List Int} {cb : Nat}
theorem CurOut.keep (h : CurOut w0 A n cap xs cb w w1) (hc : Cur w0 A n cap xs cb w) (hb : Below w.heap.size w1 w2) : CurOut w0 A n cap xs cb w w2 := by
  have hl := hc.lt
  have ht := hc.top
  obtain ⟨⟨h1, h2, h3, h4, j, q, h5, h6, h7⟩, hg1⟩ := h
  exact ⟨⟨h1, h2.trans (hb.mono ht), h3, h4, j, q, h5, h6, h7.below hb hl⟩, hb.os.trans hg1.os, hb.tape.trans hg1.tape, hb.output.trans hg1.output, Nat.le_trans hg1.size hb.size, fun k hk hr => (hb.block k hk).trans (hg1.block k hk hr)⟩
theorem CurOut.size (h : CurOut w0 A n cap xs cb w w1) : w.heap.size ≤ w1.heap.size := h.2.size
end
theorem info8 : (Tryd.prog.info? 5).map (fun i => (i.zero, i.size, i.bytes)) = some (some (.int .u8 0), 1, 1) := by kernel_rfl
theorem own_curOut {w0 w w1 w2 : World} {A : Option Addr} {n cap : Nat} {xs : List Int} {cb : Nat} {s : Value} {k : Nat} {ys : List Value} {e : TypeId} {z : Nat} (hc : Cur w0 A n cap xs cb w) (ho : w1.ownsRow w.heap.size e z s k ys) (h : CurOut w0 A n cap xs cb w1 w2) (h1 : w.heap.size ≤ w1.heap.size) : w2.ownsRow w.heap.size e z s k ys := by
  refine ho.kept h.2 ?_
  have hl := hc.lt
  by_cases hb : s.ownBlock = none
  · exact .inl hb
  · exact .inr (fun e => by have := own_base ho cb e; omega)
theorem one_news (w : World) (x : Int) (t : TypeId) : ∀ (j : Nat) (u : Value), ([.int .u8 x] : List Value)[j]? = some u → (w.alloc (.cells #[.int .u8 x] t)).cell? (Addr.add ⟨w.heap.size, 0, none⟩ j) = some u := by
  intro j u hj
  match j, hj with
  | 0, hj => simp at hj; subst hj; simp [Addr.add]
theorem own_one {w : World} {B : Nat} {t : TypeId} {v : Value} {ls : List Int} {x : Int} (h : w.ownsRow B t 1 v (ls.length + 1) (nums .u8 ls ++ [.int .u8 x])) : w.ownsRow B t 1 v (ls ++ [x]).length (nums .u8 (ls ++ [x])) := by
  simpa [nums] using h
theorem byt_one {ls : List Int} {x : Int} (h : Byt ls) (hx : 0 ≤ x ∧ x < 256) : Byt (ls ++ [x]) := by
  intro y hy
  rcases List.mem_append.1 hy with hy | hy
  · exact h y hy
  · simp at hy; subst hy; exact hx
theorem CurOut.app {w0 w w1 w2 : World} {A : Option Addr} {n cap : Nat} {xs : List Int} {cb : Nat} {s : Value} {k : Nat} {ys : List Value} {e : TypeId} {z : Nat} (h : CurOut w0 A n cap xs cb w w1) (hc : Cur w0 A n cap xs cb w) (o : Obj) (ho : w1.ownsRow w.heap.size e z s k ys) (hg : (w1.alloc o).grownBy w2 s.ownBlock) : CurOut w0 A n cap xs cb w w2 :=
  h.keep hc (((Below.refl _ _).alloc h.size o).grown hg (Nat.le_trans h.size (Dn.al w1 o).size) (fun k hk => own_base ho k hk))
set_option maxHeartbeats 1000000 in
theorem l04Bytes_c (w0 : World) (A : Option Addr) (n cap : Nat) (xs : List Int) (cb : Nat) (w : World) (hc : Cur w0 A n cap xs cb w) (m : Nat) (hm : 0 < m) (hm2 : m ≤ 60) :
    Calls Tryd.prog 33 #[.pointer (some ⟨cb, 0, none⟩), .int .i64 m] w fun e w' => ∃ v ls, (0 < ls.length ∧ ls.length ≤ 180) ∧ Byt ls ∧ e = .returned v ∧ w'.ownsRow w.heap.size 5 1 v ls.length (nums .u8 ls) ∧ CurOut w0 A n cap xs cb w w' := by
  have HC := Lib.hid hc
  have hst : CurOut w0 A n cap xs cb w (w.alloc (.cells #[] 5)) := CurOut.of hc (Dn.al w _)
  obtain ⟨i0, hi, hz0, hz1, hz2⟩ := info_parts info8
  have HI := Lib.hid (And.intro hi (And.intro hz0 (And.intro hz1 hz2)))
  clear hc hi hz0 hz1 hz2
  go_enter Tryd.func33, Tryd.ntmps33
  go_wp2_with fail
  go_loopw [5, 6] (fun s i wr => ∃ j : Nat, j ≤ m ∧ i = .int .i64 j ∧ ∃ ls : List Int, ls.length ≤ 3 * j ∧ (0 < j → 0 < ls.length) ∧ Byt ls ∧ wr.ownsRow w.heap.size 5 1 s ls.length (nums .u8 ls) ∧ CurOut w0 A n cap xs cb w wr) (fun _ i _ => m - (intOf i).toNat)
  case atStart => exact ⟨0, by omega, rfl, [], by simp, by omega, by intro x hx; simp at hx, World.ownsRow_made w #[] 0 (Nat.le_refl _) (by decide) rfl, hst⟩
  case round =>
    obtain ⟨j, hj, rfl, ls, hl, hl0, hby, ho, hO⟩ := hrel
    obtain ⟨sA, sc, rfl⟩ := own_shape ho
    have HO := Lib.hid hO
    have HW := Lib.hid ho
    clear hst hO ho
    by_cases hlt : j < m
    · go_wp2_with fail
      refine (l03Code_c w0 A n cap xs cb _ (HO.out.1.later (Dn.drewN _ 0))).mono ?_
      rintro e w2 ⟨x, hx, rfl, hc2⟩
      have HW2 := Lib.hid (own_curOut HC.out HW.out hc2 HO.out.size)
      have HO2 := Lib.hid (HO.out.trans hc2)
      clear hc2 HW HO
      obtain ⟨hi, hz0, hz1, hz2⟩ := HI.out
      have b1 : ls.length + 1 ≤ maxLen := by unfold maxLen; omega
      have b2 : (ls.length + 1) * 1 ≤ 140737488355328 := by omega
      go_wp2_with (at_builtin; refine wpList_append_own _ rfl (.tmp 17) (.tmp 19) 22 rfl w.heap.size 5 i0 _ 1 1 Tryd.underlying22 hi hz0 hz1 hz2 rfl (by decide) (.slice sA ls.length sc) ls.length (nums .u8 ls) rfl (HW2.out.alloc _) ⟨w2.heap.size, 0, none⟩ 1 1 [.int .u8 x] rfl rfl (one_news w2 x _) (by intro u hu; simp at hu; subst hu; rfl) b1 b2 (by simp; have := HO2.out.size; omega) ?c3)
      case c3 =>
        intro v' w3 hown hgr _
        obtain ⟨vA, vc, rfl⟩ := own_shape hown
        have hst2 : ∃ k : Nat, k ≤ 2 ∧ (Value.int .i64 1) = .int .i64 ((k : Int) + 1) ∧ ∃ l2 : List Int, l2.length = ls.length + k + 1 ∧ Byt l2 ∧ w3.ownsRow w.heap.size 5 1 (.slice vA (ls.length + 1) vc) l2.length (nums .u8 l2) ∧ CurOut w0 A n cap xs cb w w3 :=
          ⟨0, by omega, rfl, ls ++ [x], by simp, byt_one hby hx, own_one hown, HO2.out.app HC.out _ HW2.out hgr⟩
        clear hown hgr b1 b2 HW2 HO2 hi hz0 hz1 hz2 hby
        go_wp2_with fail
        go_loopw [5, 8] (fun s i wr => ∃ k : Nat, k ≤ 2 ∧ i = .int .i64 ((k : Int) + 1) ∧ ∃ l2 : List Int, l2.length = ls.length + k + 1 ∧ Byt l2 ∧ wr.ownsRow w.heap.size 5 1 s l2.length (nums .u8 l2) ∧ CurOut w0 A n cap xs cb w wr) (fun _ i _ => 3 - (intOf i).toNat)
        case atStart => exact hst2
        case round =>
          obtain ⟨k, hk, rfl, l2, hl2, hby2, ho2, hO2⟩ := hrel
          obtain ⟨rA, rc, rfl⟩ := own_shape ho2
          have HO2 := Lib.hid hO2
          have HW2 := Lib.hid ho2
          have HL2 := Lib.hid hl2
          clear hst2 hO2 ho2 hl2
          go_wp2_with fail
          refine (sSizeOf_c x hx.1 hx.2 _).mono ?_
          rintro e w4 ⟨rfl, hb4⟩
          have hsz := size_ok (opF x).2
          generalize sizeF (opF x).2 = q at *
          have HW3 := Lib.hid (own_later HW2.out hb4)
          have HO3 := Lib.hid (HO2.out.then_ hb4)
          clear hb4 HW2 HO2
          by_cases hq : (k : Int) + 1 < q
          · go_wp2_with fail
            refine (l02Byte_c w0 A n cap xs cb _ (HO3.out.1.later (Dn.drewN _ 0))).mono ?_
            rintro e w5 ⟨y, hy, rfl, hc5⟩
            have HW5 := Lib.hid (own_curOut HC.out HW3.out hc5 HO3.out.size)
            have HO5 := Lib.hid (HO3.out.trans hc5)
            clear hc5 HW3 HO3
            obtain ⟨hi, hz0, hz1, hz2⟩ := HI.out
            have b1 : l2.length + 1 ≤ maxLen := by have := HL2.out; unfold maxLen; omega
            have b2 : (l2.length + 1) * 1 ≤ 140737488355328 := by have := HL2.out; omega
            go_wp2_with (at_builtin; refine wpList_append_own _ rfl (.tmp 27) (.tmp 30) 22 rfl w.heap.size 5 i0 _ 1 1 Tryd.underlying22 hi hz0 hz1 hz2 rfl (by decide) (.slice rA l2.length rc) l2.length (nums .u8 l2) rfl (HW5.out.alloc _) ⟨w5.heap.size, 0, none⟩ 1 1 [.int .u8 y] rfl rfl (one_news w5 y _) (by intro u hu; simp at hu; subst hu; rfl) b1 b2 (by simp; have := HO5.out.size; omega) ?c4)
            case c4 =>
              intro v' w6 hown hgr _
              obtain ⟨vA, vc, rfl⟩ := own_shape hown
              have HO6 := Lib.hid (HO5.out.app HC.out _ HW5.out hgr)
              have HW6 := Lib.hid (own_one hown)
              clear hown hgr b1 b2 HW5 HO5 hi hz0 hz1 hz2
              go_wp2
              go_roundw
              case rel => exact ⟨k + 1, by omega, by go_num, l2 ++ [y], by have := HL2.out; simp; omega, byt_one hby2 hy, HW6.out, HO6.out⟩
              case measure => simp [intOf]; omega
          · go_wp2
            go_roundw
            case rel => exact ⟨j + 1, by omega, by go_num, l2, by have := HL2.out; omega, by have := HL2.out; omega, hby2, HW3.out, HO3.out⟩
            case measure => simp [intOf]; omega
    · obtain rfl : j = m := by omega
      go_wp2
      go_returns
      exact ⟨_, ls, ⟨hl0 (by omega), by omega⟩, hby, rfl, HW.out, HO.out⟩
end Go.Proofs.YtemahcjglmhefaaDoor
