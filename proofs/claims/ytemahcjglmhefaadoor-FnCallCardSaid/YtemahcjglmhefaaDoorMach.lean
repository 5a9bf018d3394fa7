/- The machine and its memory in the heap: what the walks of the machine's methods hand on. No condition. -/
import Derived.Test.YtemahcjglmhefaaDoorGlob
import Derived.Test.YtemahcjglmhefaaDoorPure
namespace Go.Proofs.YtemahcjglmhefaaDoor
open Go.RowKit

def cyCells (l : List Cy) : List Value := l.flatMap fun c => [.int .u16 c.ad, .int .u8 c.da, .bool c.wr]
theorem cyCells_length (l : List Cy) : (cyCells l).length = l.length * 3 := by
  induction l with
  | nil => rfl
  | cons c l ih => simp [cyCells] at ih ⊢; omega
theorem cyCells_append (l k : List Cy) : cyCells (l ++ k) = cyCells l ++ cyCells k := by simp [cyCells]

/-- What is not the machine's own is kept. -/
def Fr (b g : Nat) (w w' : World) : Prop := w.heap.size ≤ w'.heap.size ∧ ∀ k t cs, Bk w k t cs → k ≠ b → k ≠ g → t ≠ 93 → Bk w' k t cs
theorem Fr.refl (b g : Nat) (w : World) : Fr b g w w := ⟨Nat.le_refl _, fun _ _ _ h _ _ _ => h⟩
theorem Fr.trans {b g : Nat} {w w1 w2 : World} (h : Fr b g w w1) (k : Fr b g w1 w2) : Fr b g w w2 := ⟨Nat.le_trans h.1 k.1, fun q t cs hq h1 h2 h3 => k.2 q t cs (h.2 q t cs hq h1 h2 h3) h1 h2 h3⟩
theorem Fr.later {b g : Nat} {w w' : World} (h : Below w.heap.size w w') : Fr b g w w' := ⟨h.size, fun _ _ _ hq _ _ _ => hq.later h⟩
theorem Fr.put {b g k : Nat} {w : World} (h : k = b ∨ k = g) (i : Nat) (u : Value) : Fr b g w (w.setCell ⟨k, i, none⟩ u) :=
  ⟨by simp [World.setCell], fun q t cs hq h1 h2 _ => hq.far (p := ⟨k, i, none⟩) (fun e => by rcases h with h | h <;> simp_all) u⟩

/-- The machine at block b: its registers, its memory (block g), its cycles, all made since B; below B the world is w0, and what is not the machine's is kept. -/
structure St (B : Nat) (w0 : World) (b g : Nat) (m : Ms) (w : World) : Prop where
  b4 : 4 ≤ B
  gl0 : Gl w0
  lo : B ≤ b
  bel : Below B w0 w
  top : B ≤ w.heap.size
  fr : Fr b g w0 w
  cok : m.c.ok
  sok : okSize m.ram.length
  byt : Byt m.ram
  mem : ∃ cap cv, Bk w b 61 #[.int .u8 m.c.a, .int .u8 m.c.x, .int .u8 m.c.y, .int .u8 m.c.s, .int .u16 m.c.pc, .bool m.c.f.n, .bool m.c.f.v, .bool m.c.f.d, .bool m.c.f.i, .bool m.c.f.z, .bool m.c.f.c, .slice (some ⟨g, 0, none⟩) m.ram.length cap, cv] ∧
    w.ownsRow B 5 1 (.slice (some ⟨g, 0, none⟩) m.ram.length cap) m.ram.length (nums .u8 m.ram) ∧ w.ownsRow B 93 3 cv m.cy.length (cyCells m.cy)

section
variable {B : Nat} {w0 w w' : World} {b g : Nat} {m m' : Ms}
theorem St.later (h : St B w0 b g m w) (hb : Below w.heap.size w w') : St B w0 b g m w' := by
  obtain ⟨hB, hG, h1, h2, h3, hf, h4, h5, h6, cap, cv, h7, h8, h9⟩ := h
  exact ⟨hB, hG, h1, Bl.then_ h2 h3 hb, Nat.le_trans h3 hb.size, hf.trans (Fr.later hb), h4, h5, h6, cap, cv, h7.later hb, own_later h8 hb, own_later h9 hb⟩
theorem St.drewN (h : St B w0 b g m w) (n : Nat) : St B w0 b g m (w.drewN n) := h.later (Bl.drewN (Below.refl _ _) n)
theorem St.drew (h : St B w0 b g m w) : St B w0 b g m w.drew := h.later (Dn.drew w)
theorem St.gl (h : St B w0 b g m w) : Gl w := h.gl0.below h.bel h.b4
theorem St.from_ (h : St B w0 b g m w) : St B w b g m w := ⟨h.b4, h.gl, h.lo, Below.refl _ _, h.top, Fr.refl _ _ _, h.cok, h.sok, h.byt, h.mem⟩
theorem St.trans_ (h : St B w0 b g m w) (k : St B w b g m' w') : St B w0 b g m' w' := ⟨k.b4, h.gl0, k.lo, h.bel.trans k.bel, k.top, h.fr.trans k.fr, k.cok, k.sok, k.byt, k.mem⟩
theorem St.put (h : St B w0 b g m w) (k : Nat) (u : Value) (m' : Ms) (hr : m'.ram = m.ram) (hc : m'.cy = m.cy) (hok : m'.c.ok)
    (he : ∀ rv cv, (#[.int .u8 m.c.a, .int .u8 m.c.x, .int .u8 m.c.y, .int .u8 m.c.s, .int .u16 m.c.pc, .bool m.c.f.n, .bool m.c.f.v, .bool m.c.f.d, .bool m.c.f.i, .bool m.c.f.z, .bool m.c.f.c, rv, cv] : Array Value).setIfInBounds k u =
      #[.int .u8 m'.c.a, .int .u8 m'.c.x, .int .u8 m'.c.y, .int .u8 m'.c.s, .int .u16 m'.c.pc, .bool m'.c.f.n, .bool m'.c.f.v, .bool m'.c.f.d, .bool m'.c.f.i, .bool m'.c.f.z, .bool m'.c.f.c, rv, cv]) :
    St B w0 b g m' (w.setCell ⟨b, k, none⟩ u) := by
  obtain ⟨hB, hG, h1, h2, h3, hf, h4, h5, h6, cap, cv, h7, h8, h9⟩ := h
  refine ⟨hB, hG, h1, h2.setCell h1 _, by simpa [World.setCell] using h3, hf.trans (Fr.put (Or.inl rfl) k u), hok, by rw [hr]; exact h5, by rw [hr]; exact h6, cap, cv, ?_, ?_, ?_⟩
  · rw [← he, hr]
    exact h7.put k u
  · rw [hr]
    exact own_far h8 (p := ⟨b, k, none⟩) (own_apart h8 h7 (by decide)) u
  · rw [hc]
    exact own_far h9 (p := ⟨b, k, none⟩) (own_apart h9 h7 (by decide)) u
theorem St.setA (h : St B w0 b g m w) {v : Int} (hv : 0 ≤ v ∧ v < 256) : St B w0 b g { m with c := { m.c with a := v } } (w.setCell ⟨b, 0, none⟩ (.int .u8 v)) :=
  h.put 0 _ _ rfl rfl ⟨hv, h.cok.2⟩ (fun _ _ => rfl)
theorem St.setX (h : St B w0 b g m w) {v : Int} (hv : 0 ≤ v ∧ v < 256) : St B w0 b g { m with c := { m.c with x := v } } (w.setCell ⟨b, 1, none⟩ (.int .u8 v)) :=
  h.put 1 _ _ rfl rfl ⟨h.cok.1, hv, h.cok.2.2⟩ (fun _ _ => rfl)
theorem St.setY (h : St B w0 b g m w) {v : Int} (hv : 0 ≤ v ∧ v < 256) : St B w0 b g { m with c := { m.c with y := v } } (w.setCell ⟨b, 2, none⟩ (.int .u8 v)) :=
  h.put 2 _ _ rfl rfl ⟨h.cok.1, h.cok.2.1, hv, h.cok.2.2.2⟩ (fun _ _ => rfl)
theorem St.setS (h : St B w0 b g m w) {v : Int} (hv : 0 ≤ v ∧ v < 256) : St B w0 b g { m with c := { m.c with s := v } } (w.setCell ⟨b, 3, none⟩ (.int .u8 v)) :=
  h.put 3 _ _ rfl rfl ⟨h.cok.1, h.cok.2.1, h.cok.2.2.1, hv, h.cok.2.2.2.2⟩ (fun _ _ => rfl)
theorem St.setPC (h : St B w0 b g m w) {v : Int} (hv : 0 ≤ v ∧ v < 65536) : St B w0 b g { m with c := { m.c with pc := v } } (w.setCell ⟨b, 4, none⟩ (.int .u16 v)) :=
  h.put 4 _ _ rfl rfl ⟨h.cok.1, h.cok.2.1, h.cok.2.2.1, h.cok.2.2.2.1, hv⟩ (fun _ _ => rfl)
theorem St.setFN (h : St B w0 b g m w) (v : Bool) : St B w0 b g { m with c := { m.c with f := { m.c.f with n := v } } } (w.setCell ⟨b, 5, none⟩ (.bool v)) := h.put 5 _ _ rfl rfl h.cok (fun _ _ => rfl)
theorem St.setFV (h : St B w0 b g m w) (v : Bool) : St B w0 b g { m with c := { m.c with f := { m.c.f with v := v } } } (w.setCell ⟨b, 6, none⟩ (.bool v)) := h.put 6 _ _ rfl rfl h.cok (fun _ _ => rfl)
theorem St.setFD (h : St B w0 b g m w) (v : Bool) : St B w0 b g { m with c := { m.c with f := { m.c.f with d := v } } } (w.setCell ⟨b, 7, none⟩ (.bool v)) := h.put 7 _ _ rfl rfl h.cok (fun _ _ => rfl)
theorem St.setFI (h : St B w0 b g m w) (v : Bool) : St B w0 b g { m with c := { m.c with f := { m.c.f with i := v } } } (w.setCell ⟨b, 8, none⟩ (.bool v)) := h.put 8 _ _ rfl rfl h.cok (fun _ _ => rfl)
theorem St.setFZ (h : St B w0 b g m w) (v : Bool) : St B w0 b g { m with c := { m.c with f := { m.c.f with z := v } } } (w.setCell ⟨b, 9, none⟩ (.bool v)) := h.put 9 _ _ rfl rfl h.cok (fun _ _ => rfl)
theorem St.setFC (h : St B w0 b g m w) (v : Bool) : St B w0 b g { m with c := { m.c with f := { m.c.f with c := v } } } (w.setCell ⟨b, 10, none⟩ (.bool v)) := h.put 10 _ _ rfl rfl h.cok (fun _ _ => rfl)
theorem St.setF (h : St B w0 b g m w) (n v d i z c : Bool) : St B w0 b g { m with c := { m.c with f := ⟨n, v, d, i, z, c⟩ } }
    ((((((w.setCell ⟨b, 5, none⟩ (.bool n)).setCell ⟨b, 6, none⟩ (.bool v)).setCell ⟨b, 7, none⟩ (.bool d)).setCell ⟨b, 8, none⟩ (.bool i)).setCell ⟨b, 9, none⟩ (.bool z)).setCell ⟨b, 10, none⟩ (.bool c)) :=
  (((((h.setFN n).setFV v).setFD d).setFI i).setFZ z).setFC c
/-- The block's cells, written out for the walk. -/
theorem St.open_ (h : St B w0 b g m w) : ∃ cap cv, (∀ i, w.cell? ⟨b, i, none⟩ = (#[.int .u8 m.c.a, .int .u8 m.c.x, .int .u8 m.c.y, .int .u8 m.c.s, .int .u16 m.c.pc, .bool m.c.f.n, .bool m.c.f.v, .bool m.c.f.d, .bool m.c.f.i, .bool m.c.f.z, .bool m.c.f.c, .slice (some ⟨g, 0, none⟩) m.ram.length cap, cv] : Array Value)[i]?) ∧
    (∀ i, w.frozen? ⟨b, i, none⟩ = false) ∧ w.ownsRow B 5 1 (.slice (some ⟨g, 0, none⟩) m.ram.length cap) m.ram.length (nums .u8 m.ram) ∧ w.ownsRow B 93 3 cv m.cy.length (cyCells m.cy) := by
  obtain ⟨cap, cv, h7, h8, h9⟩ := h.mem
  exact ⟨cap, cv, h7.cell, h7.frozen, h8, h9⟩
theorem St.lt (h : St B w0 b g m w) : b < w.heap.size := by
  obtain ⟨cap, cv, h7, h8, h9⟩ := h.mem
  exact h7.lt
theorem St.ltg (h : St B w0 b g m w) : B ≤ g ∧ g < w.heap.size ∧ g ≠ b := by
  obtain ⟨cap, cv, h7, h8, h9⟩ := h.mem
  have hne := own_apart h8 h7 (by decide)
  exact ⟨(h8.lt g rfl).1, (h8.lt g rfl).2, fun e => hne (by simp [Value.ownBlock, e])⟩
end
end Go.Proofs.YtemahcjglmhefaaDoor
