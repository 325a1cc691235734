/- Views in memory of their own: the program's. -/
import Derived.Test.YtbjgfcempfpfcaaG
import Derived.Deep.RegionWith
namespace Go.Proofs.Ytbjgfcempfpfcaa
open Go.RowKit Go.Shelf

set_option maxRecDepth 100000 in
set_option maxHeartbeats 2000000 in
theorem view_Own (x : View) (A1 A2 : Option Addr) (c1 c2 : Nat) (w : World) (h : RepV w x A1 c1 A2 c2) :
    Calls Try.prog 56 #[x.v A1 c1 A2 c2] w (RetV w x) := by
  have hsm1 := h.base.small
  have hsm2 := h.list.small
  unfold View.v
  go_enter Try.func56, Try.ntmps56
  go_upto_region 1 with (fail)
  refine name_world fun W0 hW0 => ?_
  have hT := two_start hW0
  clear hW0
  have hV := hT.box
  have q1 := hV.cells.2.1
  have q2 := hV.cells.2.2.1
  have q3 := hV.frozen
  have z0 := hV.lt
  have z1 := hT.res.lt
  go_region_with (first | (go_at_call_of 77 A1; refine (slices_Clone A1 c1 x.base _ (h.base.below (hT.b.drew))).mono ?_; rintro e W1 ⟨v, rfl, hown1, hb1⟩; obtain ⟨E1, f1, rfl, hs1, hf1⟩ := sl_of_own hown1 hsm1; have hT1 := hT.below (Nat.le_refl _) (Nat.le_succ _) (((Below.refl W0.heap.size W0).drew).trans hb1); have p2 := hT1.box.cells.2.2.1) | (go_at_call_of 77 A2; refine (slices_Clone A2 c2 x.list _ (h.list.below hT1.b)).mono ?_; rintro e W2 ⟨v, rfl, hown2, hb2⟩; obtain ⟨E2, f2, rfl, hs2, hf2⟩ := sl_of_own hown2 hsm2; have hT2 := hT1.below (Nat.le_refl _) (Nat.le_succ _) hb2; have r1 := hT2.box.cells.2.1; have r2 := hT2.box.cells.2.2.1; have r3 := hT2.box.frozen))
  all_goals (
    have z2 := hb1.size
    have z3 : W0.heap.size ≤ W1.heap.size := by simpa using hb1.size
    have z4 := hb2.size
    go_upto_region 2 with (fail)
    refine name_world fun W3 hW3 => ?_
    have hT4 : Two w W3 w.heap.size (w.heap.size + 1) x View.zero E1 f1 E2 f2 none 0 none 0 := by
      rw [← hW3]; exact ⟨(hT2.box.setBase E1 f1 x.base).setList E2 f2 x.list, (hT2.res.other (by simp) _).other (by simp) _, (hT2.b.setCell (p := ⟨w.heap.size, 1, none⟩) (Nat.le_refl _) _).setCell (p := ⟨w.heap.size, 2, none⟩) (Nat.le_refl _) _⟩
    have hS2 : Sl W3 E2 f2 x.list := by rw [← hW3]; exact (hs2.set _ _ fun b off e => by have := hf2 b off e; show b ≠ w.heap.size; omega).set _ _ fun b off e => by have := hf2 b off e; show b ≠ w.heap.size; omega
    have hS3 : Sl W3 E1 f1 x.base := by rw [← hW3]; exact ((hs1.below hb2).set _ _ fun b off e => by have := hf1 b off e; show b ≠ w.heap.size; simp at this; omega).set _ _ fun b off e => by have := hf1 b off e; show b ≠ w.heap.size; simp at this; omega
    clear hW3 hT1 hT2 hs1 hs2 hb1 hb2 hown1 hown2 q1 q2 q3 r1 r2 r3 p2 hT hV
    have hld : (Try.prog.info? 25).map (·.size) = some (x.cells E1 f1 E2 f2).size := by kernel_rfl
    go_wp2_with (first | (refine wpList_load_row_g rfl 25 (.tmp 1) rfl w.heap.size rfl 25 (x.cells E1 f1 E2 f2) (0, 0) _ hT4.box Try.underlying25 rfl hld ?_) | (refine wpList_store_row rfl 25 (.tmp 2) (.tmp 11) rfl (w.heap.size + 1) (x.cells E1 f1 E2 f2) rfl rfl 25 (View.zero.cells none 0 none 0) hT4.res hld rfl (View.oneCell _ _ _ _ _) ?_))
    refine bodyPost_ret (results_cell_row rfl _ _ (w.heap.size + 1) 25 (x.cells E1 f1 E2 f2) (0, 0) _ rfl (hT4.res.setRow x E1 E2 f1 f2) Try.underlying25 rfl hld) rfl ?_
    exact ⟨E1, f1, E2, f2, rfl, ⟨hS3.row _ _ fun b off e => by have := hf1 b off e; simp at this; omega, hS2.row _ _ fun b off e => by have := hf2 b off e; omega⟩, below_setRow hT4.b (Nat.le_succ _) _, fun b off e => by have := hf1 b off e; simp at this; omega, fun b off e => by have := hf2 b off e; omega⟩)
end Go.Proofs.Ytbjgfcempfpfcaa
