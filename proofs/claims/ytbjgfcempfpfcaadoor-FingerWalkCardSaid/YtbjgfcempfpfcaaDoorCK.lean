/- What the rows that list the steps of fingers give: where they lie. -/
import Derived.Test.YtbjgfcempfpfcaaDoorRows
import Derived.Test.YtbjgfcempfpfcaaDoorCA
import Derived.ProofKit
import Derived.LaidMore
import Derived.OpenShut
import Derived.Stop.Joined
namespace Go.Proofs.YtbjgfcempfpfcaaDoor
open Go.ChangeShapes Go.WideShapes Go.ChangeAt Go.WideMaps Go.WideElems Go.RowKit

theorem gSteps : Tryd.prog.globalNamed "garland/arc.steps" = some 0 := by kernel_rfl
theorem tSteps : (Tryd.prog.globals[0]?).map (·.type) = some 23 := by kernel_rfl
abbrev laidS : List (String × DataW Unit) := [("garland/arc.steps", Rows.laid_garland_arc_steps)]
/-- The door's own heap meets the condition. -/
theorem door_met (os : Os) (args : Array Value) : laidMetH Tryd.prog laidS ((World.doorLaid Tryd.prog 400 os).forCall (fun _ _ => 0) ⟨#[], args, []⟩).memory :=
  laidMetH_of_parts3 (fuel := 8) (laidMet_of_run' 8 (by kernel_rfl) (by kernel_rfl)) (by kernel_rfl) (by kernel_rfl)

set_option maxRecDepth 100000 in
theorem steps_of_laid {W : World} (h : laidMetH Tryd.prog laidS W) : Steps W := by
  rw [MakeChecks.laidMetH_plain _ _ _ (by kernel_rfl)] at h
  obtain ⟨ps, ⟨g0, t0, cs0, f0, p0, q0, hg0, ht0, hv0, hd0, _, _⟩, _, _⟩ := h
  obtain rfl := Option.some.inj (gSteps.symm.trans hg0)
  obtain rfl := Option.some.inj (tSteps.symm.trans ht0)
  obtain ⟨xs, m1, rfl, hx1, hlen, hn3, hel⟩ := DataW.trod_array Tryd.underlying23 hd0
  have c1 : Tryd.prog.cellsOf 3 = 1 := by kernel_rfl
  simp only [Prod.mk.injEq] at hx1
  have hx := hx1.1
  have key : ∀ k, k < 16 → ∃ z, cs0[k]? = some (.int .i64 z) ∧ (xs.map (·.1))[k]? = some (.lit (.int .i64 z)) := fun k hk => by
    have h1 := hel k hk
    rw [c1, Nat.mul_one, List.getElem?_eq_getElem (by rw [hn3]; exact hk)] at h1
    obtain ⟨z, e1, e2, _⟩ := DataW.trod_int Tryd.underlying3 h1
    refine ⟨z, ?_, ?_⟩
    · have e3 := congrArg (fun l => l[0]?) e1
      simpa [List.getElem?_drop, List.getElem?_take] using e3
    · rw [List.getElem?_map, List.getElem?_eq_getElem (by rw [hn3]; exact hk)]
      simp [e2]
  have hs : 0 < W.heap.size := by
    obtain ⟨z, e1, _⟩ := key 0 (by omega)
    have := (World.var?_cell hg0 hv0 0).trans e1
    exact World.block_lt_of_cell? W _ this
  refine ⟨hs, fun k hk => ?_⟩
  obtain ⟨z, e1, e2⟩ := key k hk
  rw [World.var?_cell hg0 hv0 k, e1]
  have hxs : (Rows.laid_garland_arc_steps : DataW Unit) = .agg (xs.map (·.1)) := hx
  unfold Rows.laid_garland_arc_steps at hxs
  injection hxs with hxs
  rw [← hxs] at e2
  have : k = 0 ∨ k = 1 ∨ k = 2 ∨ k = 3 ∨ k = 4 ∨ k = 5 ∨ k = 6 ∨ k = 7 ∨ k = 8 ∨ k = 9 ∨ k = 10 ∨ k = 11 ∨ k = 12 ∨ k = 13 ∨ k = 14 ∨ k = 15 := by omega
  rcases this with rfl | rfl | rfl | rfl | rfl | rfl | rfl | rfl | rfl | rfl | rfl | rfl | rfl | rfl | rfl | rfl <;> (simp at e2; subst e2; rfl)
end Go.Proofs.YtbjgfcempfpfcaaDoor
