/- Contracts of the layer rect: the reference's. -/
import Derived.Test.YtbjgfcempfpfcaaDoorJ
namespace Go.Proofs.YtbjgfcempfpfcaaDoor
open Go.RowKit Go.Shelf

set_option maxRecDepth 100000 in
set_option maxHeartbeats 1000000 in
theorem r15_Great (x : View) (A1 A2 : Option Addr) (c1 c2 : Nat) (w : World) :
    Calls Tryd.prog 12 #[x.v A1 c1 A2 c2] w fun e w' => e = .returned (.bool (greatV x)) ∧ Below w.heap.size w w' := by
  unfold View.v
  go_enter Tryd.func12, Tryd.ntmps12
  go_upto_region 1 with (fail)
  refine name_world fun W0 hW0 => ?_
  have hT := one_start hW0
  clear hW0
  have q0 := hT.box.cells.1
  have q1 := hT.box.cells.2.1
  have q2 := hT.box.cells.2.2.1
  have q3 := hT.box.cells.2.2.2.1
  have HLD := Lib.hid (view_size x A1 A2 c1 c2)
  clear HLD
  go_wp2
  all_goals (go_ret; refine ⟨ret_bool ?_, hT.b⟩; rw [Bool.eq_iff_iff]; simp [greatV]; omega)

end Go.Proofs.YtbjgfcempfpfcaaDoor
