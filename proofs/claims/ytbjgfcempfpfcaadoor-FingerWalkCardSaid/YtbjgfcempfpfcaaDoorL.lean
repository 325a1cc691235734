/- Contracts of the layer rect: the reference's Notify, Gone. -/
import Derived.Test.YtbjgfcempfpfcaaDoorK
namespace Go.Proofs.YtbjgfcempfpfcaaDoor
open Go.RowKit Go.Shelf

theorem Sl.cell {w : World} {b off c : Nat} {xs : List Int} (h : Sl w (some ⟨b, off, none⟩) c xs) {k : Nat} (hk : k < xs.length) : w.cell? ⟨b, off + k, none⟩ = some (.int .i64 (nth xs k)) := by
  obtain ⟨b', off', e, _, hc⟩ := h.at_ (by omega)
  injection e with e; injection e with e1 e2 _
  subst e1; subst e2
  exact hc k hk
theorem RepV.told {w : World} {x : View} {A1 A2 : Option Addr} {c1 c2 : Nat} (h : RepV w x A1 c1 A2 c2) (p : Int) : RepV w (x.withPred p) A1 c1 A2 c2 := ⟨h.base, h.list⟩
theorem RepV.set {w : World} {x : View} {A1 A2 : Option Addr} {c1 c2 : Nat} (h : RepV w x A1 c1 A2 c2) (p : Addr) (v : Value) (h1 : ∀ b off, A1 = some ⟨b, off, none⟩ → b ≠ p.block) (h2 : ∀ b off, A2 = some ⟨b, off, none⟩ → b ≠ p.block) : RepV (w.setCell p v) x A1 c1 A2 c2 := ⟨h.base.set p v h1, h.list.set p v h2⟩
theorem RepV.row {w : World} {x : View} {A1 A2 : Option Addr} {c1 c2 : Nat} (h : RepV w x A1 c1 A2 c2) (g : Nat) (cs : Array Value) (h1 : ∀ b off, A1 = some ⟨b, off, none⟩ → b ≠ g) (h2 : ∀ b off, A2 = some ⟨b, off, none⟩ → b ≠ g) : RepV (w.setRow g cs) x A1 c1 A2 c2 := ⟨h.base.row g cs h1, h.list.row g cs h2⟩
theorem Two.setRow {w W : World} {B R : Nat} {x y z : View} {A1 A2 D1 D2 E1 E2 : Option Addr} {c1 c2 d1 d2 e1 e2 : Nat} (h : Two w W B R x y A1 c1 A2 c2 D1 d1 D2 d2) (hB : w.heap.size ≤ B) (hne : R ≠ B) : Two w (W.setRow B (z.cells E1 e1 E2 e2)) B R z y E1 e1 E2 e2 D1 d1 D2 d2 :=
  ⟨h.box.setRow z E1 E2 e1 e2, (heap_setRow W B _ R hne).trans h.res, below_setRow h.b hB _⟩
theorem Two.setPred {w W : World} {B R : Nat} {x y : View} {A1 A2 D1 D2 : Option Addr} {c1 c2 d1 d2 : Nat} (h : Two w W B R x y A1 c1 A2 c2 D1 d1 D2 d2) (hB : w.heap.size ≤ B) (hne : R ≠ B) (p : Int) : Two w (W.setCell ⟨B, 3, none⟩ (.int .i64 p)) B R (x.withPred p) y A1 c1 A2 c2 D1 d1 D2 d2 :=
  ⟨h.box.setPred p, h.res.other (p := ⟨B, 3, none⟩) hne _, h.b.setCell (p := ⟨B, 3, none⟩) hB _⟩

theorem mem_take_next (d : Int) {l : List Int} {k : Nat} (h : k < l.length) : decide (d ∈ l.take (k + 1)) = (decide (d ∈ l.take k) || nth l k == d) := by
  rw [nth_eq h, List.take_succ_eq_append_getElem h, Bool.eq_iff_iff]
  simp only [decide_eq_true_eq, List.mem_append, List.mem_singleton, Bool.or_eq_true, beq_iff_eq]
  constructor <;> (rintro (h | h); exact .inl h; exact .inr h.symm)

end Go.Proofs.YtbjgfcempfpfcaaDoor
