/- Contracts: the nine of layer 15. -/
import Derived.Test.YtbjgfcempfpfcaaDoorU
namespace Go.Proofs.YtbjgfcempfpfcaaDoor
open Go.RowKit Go.Shelf

def nineV : View := newV 9 [20, 40]
theorem nine_right : rightV nineV = true := by kernel_rfl
theorem Sl.lit (w : World) (xs : List Int) (h : xs.length ≤ 17592186044416) : Sl (w.alloc (.cells (iv xs).toArray 3)) (some ⟨w.heap.size, 0, none⟩) xs.length xs :=
  ⟨Nat.le_refl _, h, fun e => (by cases e), fun _ => ⟨w.heap.size, 0, rfl, by simp, fun k hk => by
    have h1 := heap_alloc_new w (.cells (iv xs).toArray 3)
    have h2 := iv_at xs hk
    unfold World.cell?
    simp only [Nat.zero_add]
    rw [h1]
    simpa using h2⟩⟩

def toldN : View := notifyV nineV [2, 5, 3, 9, 70000]
def toldB : View := notifyV nineV [40]
theorem wk1 : toldN.pred = 5 := by kernel_rfl
theorem wk2 : askP toldN = 5 := by kernel_rfl
theorem wk3 : asksV toldN = true := by kernel_rfl
theorem wk4 : asksV nineV = false := by kernel_rfl
theorem wk5 : (goneV toldN 5).pred = -1 := by kernel_rfl
theorem wk6 : (goneV toldB 40).pred = 40 := by kernel_rfl
theorem wk7 : ownsV toldN 9 = true := by kernel_rfl
theorem wk8 : ownsV toldN 6 = true := by kernel_rfl
theorem wk9 : ownsV toldN 5 = false := by kernel_rfl
theorem wk10 : ownsV nineV 9 = false := by kernel_rfl
theorem wk11 : betterV toldN 6 = true := by kernel_rfl
theorem wk12 : betterV toldN 4 = false := by kernel_rfl
theorem wk13 : betterV toldN 9 = false := by kernel_rfl
theorem wk14 : betterV toldN (-1) = false := by kernel_rfl
end Go.Proofs.YtbjgfcempfpfcaaDoor
