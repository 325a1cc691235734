/- Contract: wakes of layer 15. -/
import Derived.Test.YtbjgfcempfpfcaaV
namespace Go.Proofs.Ytbjgfcempfpfcaa
open Go.RowKit Go.Shelf

attribute [local go_sem] View.v

/-- A box of a view and what it reads, in a world behind w. -/
structure Has (w W : World) (B : Nat) (x : View) (A1 : Option Addr) (c1 : Nat) (A2 : Option Addr) (c2 : Nat) : Prop where
  box : VBox W B x A1 c1 A2 c2
  rep : RepV W x A1 c1 A2 c2
theorem Has.below {w W W' : World} {B : Nat} {x : View} {A1 A2 : Option Addr} {c1 c2 : Nat} (h : Has w W B x A1 c1 A2 c2) (hb : Below W.heap.size W W') : Has w W' B x A1 c1 A2 c2 := ⟨h.box.below hb h.box.lt, h.rep.below hb⟩
theorem RepV.heap2 {w w' : World} {x : View} {A1 A2 : Option Addr} {c1 c2 : Nat} (h : RepV w x A1 c1 A2 c2) (hs : w.heap.size ≤ w'.heap.size) (hk : ∀ b, b < w.heap.size → w'.heap[b]? = w.heap[b]?) : RepV w' x A1 c1 A2 c2 := ⟨h.base.heap2 hs (fun b _ hb _ => hk b hb), h.list.heap2 hs (fun b _ hb _ => hk b hb)⟩
theorem field_pred (x : View) (A1 : Option Addr) (c1 : Nat) (A2 : Option Addr) (c2 : Nat) : ∀ w : World, (Instr.field 25 (.agg (x.cells A1 c1 A2 c2)) 3).run Try.prog w = .ok (.int .i64 x.pred) w := fun w => by
  refine Eq.trans (b := Result.ok _ w) ?_ rfl
  kernel_rfl
/-- A view put into a box of its own. -/
theorem has_new {w W W' : World} {x : View} {A1 A2 : Option Addr} {c1 c2 : Nat} (h : RepV W x A1 c1 A2 c2) (e : (W.alloc (.cells (View.zero.cells none 0 none 0) 25)).setRow W.heap.size (x.cells A1 c1 A2 c2) = W') : Has w W' W.heap.size x A1 c1 A2 c2 ∧ Below W.heap.size W W' := by
  subst e
  exact ⟨⟨(VBox.new W View.zero none 0 none 0).setRow _ _ _ _ _, h.heap2 (by rw [size_setRow]; simp) (fun b hb => (heap_setRow _ _ _ _ (by omega)).trans (Below.heap_alloc _ _ _ hb))⟩, below_setRow ((Below.refl _ W).alloc (Nat.le_refl _) _) (Nat.le_refl _) _⟩

set_option maxRecDepth 100000 in
set_option maxHeartbeats 1000000 in
theorem law15_wakes (w : World) : Calls Try.prog 17 #[] w fun e w' => e = .returned (.bool true) ∧ Below w.heap.size w w' := by
  go_enter Try.func17, Try.ntmps17
  go_upto_region 2 with (first | (go_at_call 59; refine (law15_nine _).mono ?_; rintro e W1 ⟨A1, a1, G1, g1, rfl, hr1, hb1, -, -⟩) | (go_at_call 23; refine (rect_Notify nineV A1 G1 a1 g1 _ (hr1.below ((Below.refl _ W1).alloc (Nat.le_refl _) _)) _ _ [2, 5, 3, 9, 70000] (Sl.lit W1 [2, 5, 3, 9, 70000] (by decide))).mono ?_; rintro e W2 ⟨A2, a2, G2, g2, rfl, hr2, hb2, -, -⟩) | (refine wpList_store_row rfl 25 (.tmp 1) (.tmp 10) rfl W2.heap.size (toldN.cells A2 a2 G2 g2) rfl rfl 25 (View.zero.cells none 0 none 0) (VBox.new W2 View.zero none 0 none 0) (view_size _ _ _ _ _) rfl (View.oneCell _ _ _ _ _) ?_))
  refine name_world fun W3 hW3 => ?_
  obtain ⟨hv, hb3⟩ := has_new (w := w) hr2 hW3
  have hB3 : Below w.heap.size w W3 := (hb1.trans ((((Below.refl _ W1).alloc (Nat.le_refl _) _).trans (hb2.mono (by simp))).mono hb1.size)).trans (hb3.mono (by have := hb1.size; have := hb2.size; simp at this; omega))
  clear hW3 hb1 hb2 hb3 hr1 hr2
  obtain ⟨B1, hB1⟩ : ∃ B, W2.heap.size = B := ⟨_, rfl⟩
  rw [hB1] at hv ⊢
  clear hB1
  refine wp_region_lit ?_
  (refine wpList_load_view (t := 1) toldN A2 G2 a2 g2 B1 ?hg ?hw ?hx ?_; (case hg => exact hv.box); (case hw => rfl); (case hx => rfl))
  go_upto_region 3 with (go_at_call 18; refine (rect_Asks toldN A2 G2 a2 g2 _ hv.rep).mono ?_; rintro e W4 ⟨rfl, hb4⟩)
  have hv4 := hv.below hb4
  have hB4 := hB3.trans (hb4.mono hB3.size)
  rw [wk2, wk3]
  clear hv hB3 hb4
  go_upto_region 4 with (first | (go_at_call 59; refine (law15_nine _).mono ?_; rintro e W5 ⟨A5, a5, G5, g5, rfl, hr5, hb5, -, -⟩) | (go_at_call 18; refine (rect_Asks nineV A5 G5 a5 g5 _ hr5).mono ?_; rintro e W6 ⟨rfl, hb6⟩))
  have hv6 := (hv4.below hb5).below hb6
  have hB6 := (hB4.trans (hb5.mono hB4.size)).trans (hb6.mono (hB4.trans (hb5.mono hB4.size)).size)
  rw [wk4]
  clear hv4 hB4 hb5 hb6 hr5
  refine wp_region_lit ?_
  (refine wpList_load_view (t := 1) toldN A2 G2 a2 g2 B1 ?hg ?hw ?hx ?_; (case hg => exact hv6.box); (case hw => rfl); (case hx => rfl))
  go_upto_region 5 with (first | (go_at_call 27; refine (rect_Gone toldN A2 G2 a2 g2 _ hv6.rep 5).mono ?_; rintro e W7 ⟨A7, a7, G7, g7, rfl, hr7, hb7, -, -⟩) | (refine wpList_store_row rfl 25 (.tmp 6) (.tmp 22) rfl W7.heap.size ((goneV toldN 5).cells A7 a7 G7 g7) rfl rfl 25 (View.zero.cells none 0 none 0) (VBox.new W7 View.zero none 0 none 0) (view_size _ _ _ _ _) rfl (View.oneCell _ _ _ _ _) ?_))
  refine name_world fun W8 hW8 => ?_
  obtain ⟨hw8, hb8⟩ := has_new (w := w) hr7 hW8
  have hv8 := (hv6.below hb7).below hb8
  have hB8 := (hB6.trans (hb7.mono hB6.size)).trans (hb8.mono (hB6.trans (hb7.mono hB6.size)).size)
  clear hW8 hv6 hB6 hb7 hb8 hr7
  obtain ⟨B6, hB6e⟩ : ∃ B, W7.heap.size = B := ⟨_, rfl⟩
  rw [hB6e] at hw8 ⊢
  clear hB6e
  go_upto_region 6 with (first | (go_at_call 59; refine (law15_nine _).mono ?_; rintro e W9 ⟨A9, a9, G9, g9, rfl, hr9, hb9, -, -⟩) | (go_at_call 23; refine (rect_Notify nineV A9 G9 a9 g9 _ (hr9.below ((Below.refl _ W9).alloc (Nat.le_refl _) _)) _ _ [40] (Sl.lit W9 [40] (by decide))).mono ?_; rintro e W10 ⟨A10, a10, G10, g10, rfl, hr10, hb10, -, -⟩) | (refine wpList_store_row rfl 25 (.tmp 7) (.tmp 25) rfl W10.heap.size (toldB.cells A10 a10 G10 g10) rfl rfl 25 (View.zero.cells none 0 none 0) (VBox.new W10 View.zero none 0 none 0) (view_size _ _ _ _ _) rfl (View.oneCell _ _ _ _ _) ?_))
  refine name_world fun W11 hW11 => ?_
  obtain ⟨hx11, hb11⟩ := has_new (w := w) hr10 hW11
  have hb12 := hb9.trans ((((Below.refl _ W9).alloc (Nat.le_refl _) _).trans (hb10.mono (by simp))).mono hb9.size)
  have hv11 := (hv8.below hb12).below hb11
  have hw11 := (hw8.below hb12).below hb11
  have hB11 := (hB8.trans (hb12.mono hB8.size)).trans (hb11.mono (hB8.trans (hb12.mono hB8.size)).size)
  clear hW11 hv8 hw8 hB8 hb9 hb10 hb11 hb12 hr9 hr10
  obtain ⟨B7, hB7e⟩ : ∃ B, W10.heap.size = B := ⟨_, rfl⟩
  rw [hB7e] at hx11 ⊢
  clear hB7e
  have q1 : W11.cell? ⟨B1, 3, none⟩ = some (.int .i64 toldN.pred) := hv11.box.cells.2.2.2.1
  rw [wk1] at q1
  have q6 : W11.cell? ⟨B6, 3, none⟩ = some (.int .i64 (goneV toldN 5).pred) := hw11.box.cells.2.2.2.1
  rw [wk5] at q6
  have hv : Has w W11 B1 toldN A2 a2 G2 g2 := hv11
  have hB := hB11
  have hx : Has w W11 B7 toldB A10 a10 G10 g10 := hx11
  clear hv11 hx11 hw11 hB11
  have f7 := wk7
  have f8 := wk8
  have f9 := wk9
  have f10 := wk10
  have f11 := wk11
  have f12 := wk12
  have f13 := wk13
  have f14 := wk14
  go_wp2_with (first | (refine wpList_load_view (t := 7) toldB A10 G10 a10 g10 B7 ?hg ?hw ?hx ?_; (case hg => exact hx.box); (case hw => rfl); (case hx => rfl)) | (refine wpList_load_view (t := 1) toldN A2 G2 a2 g2 B1 ?hg ?hw ?hx ?_; (case hg => exact hv.box); (case hw => rfl); (case hx => rfl)) | (go_at_call 27; refine (rect_Gone toldB A10 G10 a10 g10 _ hx.rep 40).mono ?_; rintro e V1 ⟨X1, x1, X2, x2, rfl, -, hb, -, -⟩; have hv := hv.below hb; have hB := hB.trans (hb.mono hB.size); have kf := field_pred (goneV toldB 40) X1 x1 X2 x2; rw [wk6] at kf) | (go_at_call_of 25 toldN; refine (rect_Owns toldN A2 G2 a2 g2 _ hv.rep _).mono ?_; rintro e V2 ⟨rfl, hb⟩; have hv := hv.below hb; have hB := hB.trans (hb.mono hB.size)) | (go_at_call 59; refine (law15_nine _).mono ?_; rintro e V3 ⟨An, an, Gn, gn, rfl, hrn, hb, -, -⟩; have hv := hv.below hb; have hB := hB.trans (hb.mono hB.size)) | (go_at_call_of 25 nineV; refine (rect_Owns nineV An Gn an gn _ hrn _).mono ?_; rintro e V4 ⟨rfl, hb⟩; have hv := hv.below hb; have hB := hB.trans (hb.mono hB.size)) | (go_at_call 20; refine (rect_Better toldN A2 G2 a2 g2 _ hv.rep _).mono ?_; rintro e V5 ⟨rfl, hb⟩; have hv := hv.below hb; have hB := hB.trans (hb.mono hB.size)))
  go_ret
  exact ⟨rfl, hB⟩
end Go.Proofs.Ytbjgfcempfpfcaa
