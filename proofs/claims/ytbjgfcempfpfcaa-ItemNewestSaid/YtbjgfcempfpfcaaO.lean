/- Contracts of the layer rect: the program's Gone, Notify. -/
import Derived.Test.YtbjgfcempfpfcaaN
namespace Go.Proofs.Ytbjgfcempfpfcaa
open Go.RowKit Go.Shelf

set_option maxRecDepth 100000 in
set_option maxHeartbeats 1000000 in
theorem rect_Gone (x : View) (A1 A2 : Option Addr) (c1 c2 : Nat) (w : World) (h : RepV w x A1 c1 A2 c2) (d : Int) :
    Calls Try.prog 27 #[x.v A1 c1 A2 c2, .int .i64 d] w (RetV w (goneV x d)) := by
  have hsm := h.base.small
  unfold View.v
  go_enter Try.func27, Try.ntmps27
  go_upto_region 1 with (fail)
  refine name_world fun W0 hW0 => ?_
  have hT := two_start hW0
  clear hW0
  have HLD := Lib.hid (view_size x A1 A2 c1 c2)
  refine wp_region_lit ?_
  (refine wpList_load_row_n rfl 25 (.tmp 2) rfl w.heap.size rfl 25 (x.cells A1 c1 A2 c2) (0, 0) _ hT.box Try.underlying25 rfl HLD.out ?_)
  go_upto_region 2 with (first | (go_at_call 56; refine (view_Own x A1 A2 c1 c2 _ ⟨h.base.below hT.b, h.list.below hT.b⟩).mono ?_; rintro e W1 ⟨E1, f1, E2, f2, rfl, hr1, hb1, hf1, hf2⟩; have hT1 := hT.below (Nat.le_refl _) (Nat.le_succ _) hb1) | (refine wpList_store_row rfl 25 (.tmp 2) (.tmp 8) rfl w.heap.size (x.cells E1 f1 E2 f2) rfl rfl 25 (x.cells A1 c1 A2 c2) hT1.box HLD.out rfl (View.oneCell _ _ _ _ _) ?_))
  refine name_world fun W2 hW2 => ?_
  have z1 := hb1.size
  have z2 := hT.res.lt
  have hT2 : Two w W2 w.heap.size (w.heap.size + 1) x View.zero E1 f1 E2 f2 none 0 none 0 := by rw [← hW2]; exact hT1.setRow (Nat.le_refl _) (Nat.succ_ne_self _)
  have hR2 : RepV W2 x E1 f1 E2 f2 := by rw [← hW2]; exact hr1.row _ _ (fun b off e => by have := hf1 b off e; omega) (fun b off e => by have := hf2 b off e; omega)
  have g1 : ∀ b off, E1 = some ⟨b, off, none⟩ → w.heap.size + 1 < b := fun b off e => by have := hf1 b off e; omega
  have g2 : ∀ b off, E2 = some ⟨b, off, none⟩ → w.heap.size + 1 < b := fun b off e => by have := hf2 b off e; omega
  have HG := Lib.hid (And.intro g1 g2)
  clear hW2 hT1 hT hb1 hr1 hf1 hf2 g1 g2 HLD h
  refine gone2_cases x d _ ?_ ?_ ?_ ?_ <;> intros <;> rename_i HR
  all_goals (go_upto_region 5 with (first | (refine wpList_load_view (t := 2) x E1 E2 f1 f2 w.heap.size ?hg ?hw ?hx ?_; (case hg => exact hT2.box); (case hw => rfl); (case hx => rfl)) | (go_at_call 18; refine (rect_Asks x E1 E2 f1 f2 _ hR2).mono ?_; rintro e W3 ⟨rfl, hb3⟩; have hT3 := hT2.below (Nat.le_refl _) (Nat.le_succ _) hb3; have hR3 := hR2.below hb3; have p1 := hT3.box.cells.2.1; have p3 := hT3.box.cells.2.2.2.1; have p4 := hT3.box.frozen) | (go_at_call 65; refine (slices_Contains _ _ _ _ _ hR3.base).mono ?_; rintro e w' ⟨rfl, rfl⟩)))
  · have hTf := hT3
    have hRf := hR3
    refine wp_region_lit ?_
    (refine wpList_load_row_n rfl 25 (.tmp 2) rfl w.heap.size rfl 25 (x.cells E1 f1 E2 f2) (0, 0) _ hTf.box Try.underlying25 rfl (view_size _ _ _ _ _) ?_)
    (refine wpList_store_row rfl 25 (.tmp 4) (.tmp 28) rfl (w.heap.size + 1) (x.cells E1 f1 E2 f2) rfl rfl 25 (View.zero.cells none 0 none 0) hTf.res (view_size _ _ _ _ _) rfl (View.oneCell _ _ _ _ _) ?_)
    go_wp2
    refine bodyPost_ret (results_cell_row rfl _ _ (w.heap.size + 1) 25 (x.cells E1 f1 E2 f2) (0, 0) _ rfl (hTf.res.setRow x E1 E2 f1 f2) Try.underlying25 rfl (view_size _ _ _ _ _)) rfl ?_
    rw [HR.out]
    exact ⟨E1, f1, E2, f2, rfl, hRf.row (w.heap.size + 1) _ (fun b off e => by have := HG.out.1 b off e; omega) (fun b off e => by have := HG.out.2 b off e; omega), below_setRow hTf.b (Nat.le_succ _) _, fun b off e => by have := HG.out.1 b off e; omega, fun b off e => by have := HG.out.2 b off e; omega⟩
  · have hTf := hT3
    have hRf := hR3
    refine wp_region_lit ?_
    (refine wpList_load_row_n rfl 25 (.tmp 2) rfl w.heap.size rfl 25 (x.cells E1 f1 E2 f2) (0, 0) _ hTf.box Try.underlying25 rfl (view_size _ _ _ _ _) ?_)
    (refine wpList_store_row rfl 25 (.tmp 4) (.tmp 28) rfl (w.heap.size + 1) (x.cells E1 f1 E2 f2) rfl rfl 25 (View.zero.cells none 0 none 0) hTf.res (view_size _ _ _ _ _) rfl (View.oneCell _ _ _ _ _) ?_)
    go_wp2
    refine bodyPost_ret (results_cell_row rfl _ _ (w.heap.size + 1) 25 (x.cells E1 f1 E2 f2) (0, 0) _ rfl (hTf.res.setRow x E1 E2 f1 f2) Try.underlying25 rfl (view_size _ _ _ _ _)) rfl ?_
    rw [HR.out]
    exact ⟨E1, f1, E2, f2, rfl, hRf.row (w.heap.size + 1) _ (fun b off e => by have := HG.out.1 b off e; omega) (fun b off e => by have := HG.out.2 b off e; omega), below_setRow hTf.b (Nat.le_succ _) _, fun b off e => by have := HG.out.1 b off e; omega, fun b off e => by have := HG.out.2 b off e; omega⟩
  · have hTf := hT3
    have hRf := hR3
    refine wp_region_lit ?_
    (refine wpList_load_row_n rfl 25 (.tmp 2) rfl w.heap.size rfl 25 (x.cells E1 f1 E2 f2) (0, 0) _ hTf.box Try.underlying25 rfl (view_size _ _ _ _ _) ?_)
    (refine wpList_store_row rfl 25 (.tmp 4) (.tmp 28) rfl (w.heap.size + 1) (x.cells E1 f1 E2 f2) rfl rfl 25 (View.zero.cells none 0 none 0) hTf.res (view_size _ _ _ _ _) rfl (View.oneCell _ _ _ _ _) ?_)
    go_wp2
    refine bodyPost_ret (results_cell_row rfl _ _ (w.heap.size + 1) 25 (x.cells E1 f1 E2 f2) (0, 0) _ rfl (hTf.res.setRow x E1 E2 f1 f2) Try.underlying25 rfl (view_size _ _ _ _ _)) rfl ?_
    rw [HR.out]
    exact ⟨E1, f1, E2, f2, rfl, hRf.row (w.heap.size + 1) _ (fun b off e => by have := HG.out.1 b off e; omega) (fun b off e => by have := HG.out.2 b off e; omega), below_setRow hTf.b (Nat.le_succ _) _, fun b off e => by have := HG.out.1 b off e; omega, fun b off e => by have := HG.out.2 b off e; omega⟩
  · refine name_world fun W4 hW4 => ?_
    have hTf : Two w W4 w.heap.size (w.heap.size + 1) (x.withPred (-1)) View.zero E1 f1 E2 f2 none 0 none 0 := by rw [← hW4]; exact hT3.setPred (Nat.le_refl _) (Nat.succ_ne_self _) _
    have hRf : RepV W4 (x.withPred (-1)) E1 f1 E2 f2 := by rw [← hW4]; exact (hR3.told _).set _ _ (fun b off e => by have := HG.out.1 b off e; show b ≠ w.heap.size; omega) (fun b off e => by have := HG.out.2 b off e; show b ≠ w.heap.size; omega)
    clear hW4
    refine wp_region_lit ?_
    (refine wpList_load_row_n rfl 25 (.tmp 2) rfl w.heap.size rfl 25 ((x.withPred (-1)).cells E1 f1 E2 f2) (0, 0) _ hTf.box Try.underlying25 rfl (view_size _ _ _ _ _) ?_)
    (refine wpList_store_row rfl 25 (.tmp 4) (.tmp 28) rfl (w.heap.size + 1) ((x.withPred (-1)).cells E1 f1 E2 f2) rfl rfl 25 (View.zero.cells none 0 none 0) hTf.res (view_size _ _ _ _ _) rfl (View.oneCell _ _ _ _ _) ?_)
    go_wp2
    refine bodyPost_ret (results_cell_row rfl _ _ (w.heap.size + 1) 25 ((x.withPred (-1)).cells E1 f1 E2 f2) (0, 0) _ rfl (hTf.res.setRow (x.withPred (-1)) E1 E2 f1 f2) Try.underlying25 rfl (view_size _ _ _ _ _)) rfl ?_
    rw [HR.out]
    exact ⟨E1, f1, E2, f2, rfl, hRf.row (w.heap.size + 1) _ (fun b off e => by have := HG.out.1 b off e; omega) (fun b off e => by have := HG.out.2 b off e; omega), below_setRow hTf.b (Nat.le_succ _) _, fun b off e => by have := HG.out.1 b off e; omega, fun b off e => by have := HG.out.2 b off e; omega⟩

set_option maxRecDepth 100000 in
set_option maxHeartbeats 1000000 in
theorem rect_improved (x : View) (A1 A2 : Option Addr) (c1 c2 : Nat) (A : Option Addr) (n c : Nat) (w : World) :
    Calls Try.prog 62 #[x.v A1 c1 A2 c2, .slice A n c] w fun e w' => e = .returned (.func (.func 100) #[] #[.pointer (some ⟨w.heap.size + 1, 0, none⟩), .pointer (some ⟨w.heap.size, 0, none⟩)]) ∧
      (w.alloc (.cells (x.cells A1 c1 A2 c2) 25)).alloc (.cells #[.slice A n c] 22) = w' := by
  unfold View.v
  go_enter Try.func62, Try.ntmps62
  go_wp2
  go_ret
  exact ⟨rfl, rfl⟩
end Go.Proofs.Ytbjgfcempfpfcaa
