/- Contract: wakes of layer 15. -/
import Derived.Test.YtbjgfcempfpfcaaDoorV
namespace Go.Proofs.YtbjgfcempfpfcaaDoor
open Go.RowKit Go.Shelf

attribute [local go_sem] View.v

/-- A box of a view and what it reads, in a world behind w. -/
structure Has (w W : World) (B : Nat) (x : View) (A1 : Option Addr) (c1 : Nat) (A2 : Option Addr) (c2 : Nat) : Prop where
  box : VBox W B x A1 c1 A2 c2
  rep : RepV W x A1 c1 A2 c2
theorem Has.below {w W W' : World} {B : Nat} {x : View} {A1 A2 : Option Addr} {c1 c2 : Nat} (h : Has w W B x A1 c1 A2 c2) (hb : Below W.heap.size W W') : Has w W' B x A1 c1 A2 c2 := ⟨h.box.below hb h.box.lt, h.rep.below hb⟩
theorem RepV.heap2 {w w' : World} {x : View} {A1 A2 : Option Addr} {c1 c2 : Nat} (h : RepV w x A1 c1 A2 c2) (hs : w.heap.size ≤ w'.heap.size) (hk : ∀ b, b < w.heap.size → w'.heap[b]? = w.heap[b]?) : RepV w' x A1 c1 A2 c2 := ⟨h.base.heap2 hs (fun b _ hb _ => hk b hb), h.list.heap2 hs (fun b _ hb _ => hk b hb)⟩
theorem field_pred (x : View) (A1 : Option Addr) (c1 : Nat) (A2 : Option Addr) (c2 : Nat) : ∀ w : World, (Instr.field 25 (.agg (x.cells A1 c1 A2 c2)) 3).run Tryd.prog w = .ok (.int .i64 x.pred) w := fun w => by
  refine Eq.trans (b := Result.ok _ w) ?_ rfl
  kernel_rfl
/-- A view put into a box of its own. -/
theorem has_new {w W W' : World} {x : View} {A1 A2 : Option Addr} {c1 c2 : Nat} (h : RepV W x A1 c1 A2 c2) (e : (W.alloc (.cells (View.zero.cells none 0 none 0) 25)).setRow W.heap.size (x.cells A1 c1 A2 c2) = W') : Has w W' W.heap.size x A1 c1 A2 c2 ∧ Below W.heap.size W W' := by
  subst e
  exact ⟨⟨(VBox.new W View.zero none 0 none 0).setRow _ _ _ _ _, h.heap2 (by rw [size_setRow]; simp) (fun b hb => (heap_setRow _ _ _ _ (by omega)).trans (Below.heap_alloc _ _ _ hb))⟩, below_setRow ((Below.refl _ W).alloc (Nat.le_refl _) _) (Nat.le_refl _) _⟩

end Go.Proofs.YtbjgfcempfpfcaaDoor
