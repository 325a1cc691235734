/- Contract: wakes of layer 17. -/
import Derived.Test.YtbjgfcempfpfcaaDoorCH
import Derived.Test.YtbjgfcempfpfcaaDoorU
import Derived.Test.YtbjgfcempfpfcaaDoorV
namespace Go.Proofs.YtbjgfcempfpfcaaDoor
open Go.RowKit Go.Shelf

def zeroV : View := newV 0 [9, 40]
theorem zero_right : rightV zeroV = true := by kernel_rfl
theorem fk1 : walkN zeroV 0 = 4 := by kernel_rfl
theorem fk2 : walkK zeroV 0 = 16 := by kernel_rfl
theorem fk3 : walkM zeroV 0 = true := by kernel_rfl
theorem fk4 : startP zeroV 5 = 32 := by kernel_rfl
theorem fk5 : startE zeroV 5 = 0 := by kernel_rfl
theorem fk6 : onceP zeroV 3 = 9 := by kernel_rfl
theorem fk7 : onceF zeroV 3 = true := by kernel_rfl
theorem fk8 : onceF zeroV 4 = false := by kernel_rfl
theorem fk8' : onceP zeroV 4 = 0 := by kernel_rfl
theorem fk9 : setE zeroV 15 0 = 0 := by kernel_rfl
theorem fk10 : setE zeroV 16 9 = 2 := by kernel_rfl
theorem fk11 : tabE zeroV [0, 9, 40] = 0 := by kernel_rfl
theorem fv1 : (walkV zeroV 0).f 0 = 9 := by kernel_rfl
theorem fv2 : (walkV zeroV 0).f 3 = 9 := by kernel_rfl
theorem fv3 : (walkV zeroV 0).f 4 = -1 := by kernel_rfl
theorem fv4 : (setF zeroV 15 0).f 15 = -1 := by kernel_rfl
theorem fv5 : (tabV zeroV [0, 9, 40]).f 3 = 9 := by kernel_rfl
theorem fv6 : (tabV zeroV [0, 9, 40]).f 5 = 40 := by kernel_rfl
theorem fv7 : (tabV zeroV [0, 9, 40]).f 6 = -1 := by kernel_rfl

set_option maxRecDepth 100000 in
set_option maxHeartbeats 1000000 in
theorem law17_wakes (w : World) (hs : Steps w) : Calls Tryd.prog 13 #[] w fun e w' => e = .returned (.bool true) ∧ Below w.heap.size w w' := by
  go_enter Tryd.func13, Tryd.ntmps13
  go_upto_region 2 with (first | (go_at_call 48; refine (r13_New 0 _ _ [9, 40] _ (Sl.lit w [9, 40] (by decide))).mono ?_; rintro e W1 ⟨hN, -, hb1⟩; obtain ⟨A, a, rfl, hr1, -⟩ := hN zero_right) | (refine wpList_store_row rfl 25 (.tmp 1) (.tmp 22) rfl W1.heap.size (zeroV.cells A a none 0) rfl rfl 25 (View.zero.cells none 0 none 0) (VBox.new W1 View.zero none 0 none 0) (view_size _ _ _ _ _) rfl (View.oneCell _ _ _ _ _) ?_))
  refine name_world fun W2 hW2 => ?_
  have hr1' : RepV W1 zeroV A a none 0 := hr1
  obtain ⟨hv2, hb2⟩ := has_new (w := w) hr1' hW2
  have hb01 := ((Below.refl w.heap.size w).alloc (Nat.le_refl _) (.cells (iv [9, 40]).toArray 3)).trans (hb1.mono (by simp))
  have hB2 : Below w.heap.size w W2 := hb01.trans (hb2.mono hb01.size)
  clear hW2 hN hb1 hr1 hb2 hb01
  obtain ⟨B1, hB1⟩ : ∃ B, W1.heap.size = B := ⟨_, rfl⟩
  rw [hB1] at hv2 ⊢
  clear hB1
  refine wp_region_lit ?_
  (refine wpList_load_view (t := 1) zeroV A none a 0 B1 ?hg ?hw ?hx ?_; (case hg => exact hv2.box); (case hw => rfl); (case hx => rfl))
  go_upto_region 3 with (first | (go_at_call 21; refine (finger_Walk zeroV A none a 0 0 _ hv2.rep (hs.below hB2)).mono ?_; rintro e W3 ⟨C1, d1, C2, d2, he, hq3, hc3, -, -⟩; rw [fk1, fk2, fk3] at he; subst he) | (refine wpList_store_row rfl 25 (.tmp 3) (.tmp 27) rfl W3.heap.size ((walkV zeroV 0).cells C1 d1 C2 d2) rfl rfl 25 (View.zero.cells none 0 none 0) (VBox.new W3 View.zero none 0 none 0) (view_size _ _ _ _ _) rfl (View.oneCell _ _ _ _ _) ?_))
  refine name_world fun W4 hW4 => ?_
  obtain ⟨ha4, hb4⟩ := has_new (w := w) hq3 hW4
  have hv3 := hv2.below hc3
  have hv4 := hv3.below hb4
  have hB3 := hB2.trans (hc3.mono hB2.size)
  have hB4 := hB3.trans (hb4.mono hB3.size)
  clear hv2 hB2
  clear hv3 hB3
  clear hW4 hb4 hc3 hq3
  obtain ⟨B3, hB3⟩ : ∃ B, W3.heap.size = B := ⟨_, rfl⟩
  rw [hB3] at ha4 ⊢
  clear hB3
  refine wp_region_lit ?_
  (refine wpList_load_view (t := 1) zeroV A none a 0 B1 ?hg ?hw ?hx ?_; (case hg => exact hv4.box); (case hw => rfl); (case hx => rfl))
  go_upto_region 4 with (first | (go_at_call 14; refine (finger_Start zeroV A none a 0 5 _ hv4.rep (hs.below hB4)).mono ?_; rintro e W5 ⟨he, hb5⟩; rw [fk4, fk5] at he; subst he))
  have hv5 := hv4.below hb5
  have ha5 := ha4.below hb5
  have hB5 := hB4.trans (hb5.mono hB4.size)
  clear hv4 hB4 ha4
  clear hb5
  refine wp_region_lit ?_
  (refine wpList_load_view (t := 1) zeroV A none a 0 B1 ?hg ?hw ?hx ?_; (case hg => exact hv5.box); (case hw => rfl); (case hx => rfl))
  go_upto_region 5 with (first | (go_at_call 16; refine (finger_Once zeroV A none a 0 3 _ hv5.rep (hs.below hB5)).mono ?_; rintro e W6 ⟨he, hb6⟩; rw [fk6, fk7] at he; subst he))
  have hv6 := hv5.below hb6
  have ha6 := ha5.below hb6
  have hB6 := hB5.trans (hb6.mono hB5.size)
  clear hv5 hB5 ha5
  clear hb6
  refine wp_region_lit ?_
  (refine wpList_load_view (t := 1) zeroV A none a 0 B1 ?hg ?hw ?hx ?_; (case hg => exact hv6.box); (case hw => rfl); (case hx => rfl))
  go_upto_region 6 with (first | (go_at_call 16; refine (finger_Once zeroV A none a 0 4 _ hv6.rep (hs.below hB6)).mono ?_; rintro e W7 ⟨he, hb7⟩; rw [fk8', fk8] at he; subst he))
  have hv7 := hv6.below hb7
  have ha7 := ha6.below hb7
  have hB7 := hB6.trans (hb7.mono hB6.size)
  clear hv6 hB6 ha6
  clear hb7
  refine wp_region_lit ?_
  (refine wpList_load_view (t := 1) zeroV A none a 0 B1 ?hg ?hw ?hx ?_; (case hg => exact hv7.box); (case hw => rfl); (case hx => rfl))
  go_upto_region 7 with (first | (go_at_call 18; refine (finger_Set zeroV A none a 0 15 0 _ hv7.rep).mono ?_; rintro e W8 ⟨D1, e1, D2, e2, he, hq8, hc8, -, -⟩; rw [fk9] at he; subst he) | (refine wpList_store_row rfl 25 (.tmp 13) (.tmp 49) rfl W8.heap.size ((setF zeroV 15 0).cells D1 e1 D2 e2) rfl rfl 25 (View.zero.cells none 0 none 0) (VBox.new W8 View.zero none 0 none 0) (view_size _ _ _ _ _) rfl (View.oneCell _ _ _ _ _) ?_))
  refine name_world fun W9 hW9 => ?_
  obtain ⟨hd9, hb9⟩ := has_new (w := w) hq8 hW9
  have hv8 := hv7.below hc8
  have ha8 := ha7.below hc8
  have hv9 := hv8.below hb9
  have ha9 := ha8.below hb9
  have hB8 := hB7.trans (hc8.mono hB7.size)
  have hB9 := hB8.trans (hb9.mono hB8.size)
  clear hv7 hB7 ha7
  clear hv8 hB8 ha8
  clear hW9 hb9 hc8 hq8
  obtain ⟨B13, hB13⟩ : ∃ B, W8.heap.size = B := ⟨_, rfl⟩
  rw [hB13] at hd9 ⊢
  clear hB13
  refine wp_region_lit ?_
  (refine wpList_load_view (t := 1) zeroV A none a 0 B1 ?hg ?hw ?hx ?_; (case hg => exact hv9.box); (case hw => rfl); (case hx => rfl))
  go_upto_region 8 with (first | (go_at_call 18; refine (finger_Set zeroV A none a 0 16 9 _ hv9.rep).mono ?_; rintro e W10 ⟨E1, f1, E2, f2, he, hq10, hc10, -, -⟩; rw [fk10] at he; subst he) | (refine wpList_store_row rfl 25 (.tmp 15) (.tmp 54) rfl W10.heap.size ((setF zeroV 16 9).cells E1 f1 E2 f2) rfl rfl 25 (View.zero.cells none 0 none 0) (VBox.new W10 View.zero none 0 none 0) (view_size _ _ _ _ _) rfl (View.oneCell _ _ _ _ _) ?_))
  refine name_world fun W11 hW11 => ?_
  obtain ⟨he11, hb11⟩ := has_new (w := w) hq10 hW11
  have hv10 := hv9.below hc10
  have ha10 := ha9.below hc10
  have hd10 := hd9.below hc10
  have hv11 := hv10.below hb11
  have ha11 := ha10.below hb11
  have hd11 := hd10.below hb11
  have hB10 := hB9.trans (hc10.mono hB9.size)
  have hB11 := hB10.trans (hb11.mono hB10.size)
  clear hv9 hB9 ha9 hd9
  clear hv10 hB10 ha10 hd10
  clear hW11 hb11 hc10 hq10
  obtain ⟨B15, hB15⟩ : ∃ B, W10.heap.size = B := ⟨_, rfl⟩
  rw [hB15] at he11 ⊢
  clear hB15
  refine wp_region_lit ?_
  (refine wpList_load_view (t := 1) zeroV A none a 0 B1 ?hg ?hw ?hx ?_; (case hg => exact hv11.box); (case hw => rfl); (case hx => rfl))
  go_upto_region 9 with (first | (go_at_call 23; refine (finger_Table zeroV A none a 0 _ _ [0, 9, 40] _ (hv11.rep.below ((Below.refl _ W11).alloc (Nat.le_refl _) _)) (Sl.lit W11 [0, 9, 40] (by decide)) ((hs.below hB11).below ((Below.refl _ W11).alloc (Nat.le_refl _) _))).mono ?_; rintro e W12 ⟨G1, g1, G2, g2, he, hq12, hcx, -, -⟩; rw [fk11] at he; subst he; have hc12 := ((Below.refl W11.heap.size W11).alloc (Nat.le_refl _) (.cells (iv [0, 9, 40]).toArray 3)).trans (hcx.mono (by simp))) | (refine wpList_store_row rfl 25 (.tmp 17) (.tmp 60) rfl W12.heap.size ((tabV zeroV [0, 9, 40]).cells G1 g1 G2 g2) rfl rfl 25 (View.zero.cells none 0 none 0) (VBox.new W12 View.zero none 0 none 0) (view_size _ _ _ _ _) rfl (View.oneCell _ _ _ _ _) ?_))
  refine name_world fun W13 hW13 => ?_
  obtain ⟨hg13, hb13⟩ := has_new (w := w) hq12 hW13
  have hv12 := hv11.below hc12
  have ha12 := ha11.below hc12
  have hd12 := hd11.below hc12
  have he12 := he11.below hc12
  have hv13 := hv12.below hb13
  have ha13 := ha12.below hb13
  have hd13 := hd12.below hb13
  have he13 := he12.below hb13
  have hB12 := hB11.trans (hc12.mono hB11.size)
  have hB13 := hB12.trans (hb13.mono hB12.size)
  clear hv11 hB11 ha11 hd11 he11
  clear hv12 hB12 ha12 hd12 he12
  clear hW13 hb13 hc12 hq12
  obtain ⟨B17, hB17⟩ : ∃ B, W12.heap.size = B := ⟨_, rfl⟩
  rw [hB17] at hg13 ⊢
  clear hB17
  have a0 : W13.cell? ⟨B3, 4, none⟩ = some (.int .i64 9) := by rw [← fv1]; exact ha13.box.finger (k := 0) (by omega)
  have a3 : W13.cell? ⟨B3, 7, none⟩ = some (.int .i64 9) := by rw [← fv2]; exact ha13.box.finger (k := 3) (by omega)
  have a4 : W13.cell? ⟨B3, 8, none⟩ = some (.int .i64 (-1)) := by rw [← fv3]; exact ha13.box.finger (k := 4) (by omega)
  have d15 : W13.cell? ⟨B13, 19, none⟩ = some (.int .i64 (-1)) := by rw [← fv4]; exact hd13.box.finger (k := 15) (by omega)
  have g3 : W13.cell? ⟨B17, 7, none⟩ = some (.int .i64 9) := by rw [← fv5]; exact hg13.box.finger (k := 3) (by omega)
  have g5 : W13.cell? ⟨B17, 9, none⟩ = some (.int .i64 40) := by rw [← fv6]; exact hg13.box.finger (k := 5) (by omega)
  have g6 : W13.cell? ⟨B17, 10, none⟩ = some (.int .i64 (-1)) := by rw [← fv7]; exact hg13.box.finger (k := 6) (by omega)
  go_wp2
  go_ret
  exact ⟨rfl, hB13⟩
end Go.Proofs.YtbjgfcempfpfcaaDoor
