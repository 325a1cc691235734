/- Contracts: the nine of layer 15. -/
import Derived.Test.YtbjgfcempfpfcaaU
namespace Go.Proofs.Ytbjgfcempfpfcaa
open Go.RowKit Go.Shelf

def nineV : View := newV 9 [20, 40]
theorem nine_right : rightV nineV = true := by kernel_rfl
theorem Sl.lit (w : World) (xs : List Int) (h : xs.length ≤ 17592186044416) : Sl (w.alloc (.cells (iv xs).toArray 3)) (some ⟨w.heap.size, 0, none⟩) xs.length xs :=
  ⟨Nat.le_refl _, h, fun e => (by cases e), fun _ => ⟨w.heap.size, 0, rfl, by simp, fun k hk => by
    have h1 := heap_alloc_new w (.cells (iv xs).toArray 3)
    have h2 := iv_at xs hk
    unfold World.cell?
    simp only [Nat.zero_add]
    rw [h1]
    simpa using h2⟩⟩

set_option maxRecDepth 100000 in
set_option maxHeartbeats 1000000 in
theorem law15_nine (w : World) : Calls Try.prog 59 #[] w (RetV w nineV) := by
  go_enter Try.func59, Try.ntmps59
  go_upto_region 1 with (fail)
  refine name_world fun W0 hW0 => ?_
  have hT := zero_start hW0
  clear hW0
  have z0 := hT.box.lt
  go_upto_region 2 with (first | (go_at_call 42; refine (r13_New 9 _ _ [20, 40] _ (Sl.lit W0 [20, 40] (by decide))).mono ?_; rintro e W1 ⟨hN, -, hb1⟩; obtain ⟨E1, f1, rfl, hr1, hf1⟩ := hN nine_right; have hb0 := ((Below.refl W0.heap.size W0).alloc (Nat.le_refl _) (.cells (iv [20, 40]).toArray 3)).trans (hb1.mono (by simp)); have hT1 := hT.below hb0) | (refine wpList_store_row rfl 25 (.tmp 1) (.tmp 6) rfl W1.heap.size (nineV.cells E1 f1 none 0) rfl rfl 25 (View.zero.cells none 0 none 0) (VBox.new W1 View.zero none 0 none 0) (view_size _ _ _ _ _) rfl (View.oneCell _ _ _ _ _) ?_))
  have z1 := hT1.box.lt
  have z2 := hb1.size
  refine name_world fun W2 hW2 => ?_
  have hT2 : Two w W2 W1.heap.size w.heap.size nineV View.zero E1 f1 none 0 none 0 none 0 := by
    rw [← hW2]
    exact ⟨(VBox.new W1 View.zero none 0 none 0).setRow _ _ _ _ _, (heap_setRow _ _ _ _ (by omega)).trans ((Below.heap_alloc _ _ _ z1).trans hT1.box), below_setRow (hT1.b.alloc hT1.b.size _) (by omega) _⟩
  have hS2 : Sl W2 E1 f1 nineV.base := by
    rw [← hW2]
    exact hr1.base.heap2 (by rw [size_setRow]; simp) (fun b off hb e => (heap_setRow _ _ _ _ (by omega)).trans (Below.heap_alloc _ _ _ hb))
  have hf2 : ∀ b off, E1 = some ⟨b, off, none⟩ → w.heap.size < b := fun b off e => by have := hf1 b off e; simp at this; omega
  clear hW2 hN hb0 hb1 hf1 hr1 hT1
  refine wp_region_lit ?_
  (refine wpList_load_view (t := 1) nineV E1 none f1 0 W1.heap.size ?hg ?hw ?hx ?_; (case hg => exact hT2.box); (case hw => rfl); (case hx => rfl))
  go_wp2_with (refine wpList_store_row rfl 25 (.tmp 0) (.tmp 8) rfl w.heap.size (nineV.cells E1 f1 none 0) rfl rfl 25 (View.zero.cells none 0 none 0) hT2.res (view_size _ _ _ _ _) rfl (View.oneCell _ _ _ _ _) ?_)
  refine bodyPost_ret (results_cell_row rfl _ _ w.heap.size 25 (nineV.cells E1 f1 none 0) (0, 0) _ rfl (hT2.res.setRow nineV E1 none f1 0) Try.underlying25 rfl (view_size _ _ _ _ _)) rfl ?_
  exact ⟨E1, f1, none, 0, rfl, ⟨hS2.row w.heap.size _ (fun b off e => by have := hf2 b off e; omega), Sl.nil _⟩, below_setRow hT2.b (Nat.le_refl _) _, fun b off e => by have := hf2 b off e; omega, fun b off e => by cases e⟩

def toldN : View := notifyV nineV [2, 5, 3, 9, 70000]
def toldB : View := notifyV nineV [40]
theorem wk1 : toldN.pred = 5 := by kernel_rfl
theorem wk2 : askP toldN = 5 := by kernel_rfl
theorem wk3 : asksV toldN = true := by kernel_rfl
theorem wk4 : asksV nineV = false := by kernel_rfl
theorem wk5 : (goneV toldN 5).pred = -1 := by kernel_rfl
theorem wk6 : (goneV toldB 40).pred = 40 := by kernel_rfl
theorem wk7 : ownsV toldN 9 = true := by kernel_rfl
theorem wk8 : ownsV toldN 6 = true := by kernel_rfl
theorem wk9 : ownsV toldN 5 = false := by kernel_rfl
theorem wk10 : ownsV nineV 9 = false := by kernel_rfl
theorem wk11 : betterV toldN 6 = true := by kernel_rfl
theorem wk12 : betterV toldN 4 = false := by kernel_rfl
theorem wk13 : betterV toldN 9 = false := by kernel_rfl
theorem wk14 : betterV toldN (-1) = false := by kernel_rfl
end Go.Proofs.Ytbjgfcempfpfcaa
