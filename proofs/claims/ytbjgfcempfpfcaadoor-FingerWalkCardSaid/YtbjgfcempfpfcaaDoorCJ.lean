/- The law FingerSets. -/
import Derived.Test.YtbjgfcempfpfcaaDoorCI
namespace Go.Proofs.YtbjgfcempfpfcaaDoor
open Go.RowKit Go.Shelf

theorem withF_self (x : View) (k : Nat) : x.withF k (x.f k) = x := by
  unfold View.withF
  have : (fun j => if j = k then x.f k else x.f j) = x.f := by funext j; split <;> simp_all
  rw [this]

set_option maxRecDepth 100000 in
set_option maxHeartbeats 4000000 in
theorem law_FingerSets_main (x : View) (A1 A2 : Option Addr) (c1 c2 : Nat) (i n : Int) (w : World) (hst : Steps w) (h : RepV w x A1 c1 A2 c2) (hg : greatV x = false) (hr : rightV x = true) :
    Calls Tryd.prog 6 #[x.v A1 c1 A2 c2, .int .i64 i, .int .i64 n] w fun e w' => e = .returned (.bool true) ∧ Below w.heap.size w w' := by
  unfold View.v
  go_enter Tryd.func6, Tryd.ntmps6
  go_upto_region 1 with (fail)
  refine name_world fun W0 hW0 => ?_
  have hT := one_start hW0
  clear hW0
  have hv0 : Has w W0 w.heap.size x A1 c1 A2 c2 := ⟨hT.box, h.below hT.b⟩
  have hB0 := hT.b
  clear hT
  go_upto_region 3 with (first | (refine wpList_load_view (t := 3) x A1 A2 c1 c2 w.heap.size ?hg ?hw ?hx ?_; (case hg => exact hv0.box); (case hw => rfl); (case hx => rfl)) | (go_at_call 12; refine (r15_Great x A1 A2 c1 c2 _).mono ?_; rintro e W1 ⟨he, hb1⟩; rw [hg] at he; subst he; have hv1 := hv0.below hb1; have hB1 := hB0.trans (hb1.mono hB0.size)) | (refine wpList_load_view (t := 3) x A1 A2 c1 c2 w.heap.size ?hg ?hw ?hx ?_; (case hg => exact hv1.box); (case hw => rfl); (case hx => rfl)) | (go_at_call 25; refine (r13_Right x A1 A2 c1 c2 _ hv1.rep.base hv1.rep.list).mono ?_; rintro e W2 ⟨he, hb2⟩; rw [hr] at he; subst he; have hv2 := hv1.below hb2; have hB2 := hB1.trans (hb2.mono hB1.size)))
  cases e1 : decide (i < 0) with
  | true =>
    have HS := Lib.hid (set_no (show setOk x i n = false by simp at e1; simp [setOk, knownF]; omega))
    refine wp_region_lit ?_
    (refine wpList_load_view (t := 3) x A1 A2 c1 c2 w.heap.size ?hg ?hw ?hx ?_; (case hg => exact hv2.box); (case hw => rfl); (case hx => rfl))
    go_upto_region 4 with (first | (go_at_call 18; refine (finger_Set x A1 A2 c1 c2 i n _ hv2.rep).mono ?_; rintro e W3 ⟨E1, e1, E2, e2, he, hr3, hb3, -, -⟩; rw [HS.out.2] at he; subst he) | (refine wpList_store_row rfl 25 (.tmp 7) (.tmp 23) rfl W3.heap.size ((setF x i n).cells E1 e1 E2 e2) rfl rfl 25 (View.zero.cells none 0 none 0) (VBox.new W3 View.zero none 0 none 0) (view_size _ _ _ _ _) rfl (View.oneCell _ _ _ _ _) ?_))
    refine name_world fun W4 hW4 => ?_
    obtain ⟨hw, hb4⟩ := has_new (w := w) hr3 hW4
    have hv := (hv2.below hb3).below hb4
    have hB := (hB2.trans (hb3.mono hB2.size)).trans (hb4.mono (hB2.trans (hb3.mono hB2.size)).size)
    have l7 : w.heap.size < W3.heap.size := Nat.lt_of_lt_of_le hv2.box.lt hb3.size
    have HA := Lib.hid (show ApartV (setF x i n) E1 E2 W3.heap.size from ApartV.old hr3 (Nat.le_refl _))
    clear hW4 hv0 hB0 hb1 hv1 hB1 hb2 hv2 hB2 hb3 hb4 hr3
    obtain ⟨B7, hB7e⟩ : ∃ B, W3.heap.size = B := ⟨_, rfl⟩
    rw [hB7e] at hw l7 HA ⊢
    clear hB7e
    rw [HS.out.1] at hw
    go_wp2_with (first | (refine wpList_load_view (t := 7) x E1 E2 e1 e2 B7 ?hg ?hw ?hx ?_; (case hg => exact hw.box); (case hw => rfl); (case hx => rfl)) | (refine wpList_load_view (t := 3) x A1 A2 c1 c2 w.heap.size ?hg ?hw ?hx ?_; (case hg => exact hv.box); (case hw => rfl); (case hx => rfl)) | (go_at_call 20; refine (r13_Same x x E1 E2 A1 A2 e1 e2 c1 c2 _ hw.rep hv.rep).mono ?_; rintro e W6 ⟨he, hb6⟩; rw [same_refl] at he; subst he; have hv := hv.below hb6; have hB := hB.trans (hb6.mono hB.size); have p0 := hv.box.cells.1) | (go_at_call 13; refine (law17_wakes _ (hst.below hB)).mono ?_; rintro e W7 ⟨rfl, hb7⟩; have hB7 := hB.trans (hb7.mono hB.size)))
    go_ret
    exact ⟨rfl, hB7⟩
  | false =>
    cases e2 : decide (16 ≤ i) with
    | true =>
      have HS := Lib.hid (set_no (show setOk x i n = false by simp at e2; simp [setOk, knownF]; omega))
      refine wp_region_lit ?_
      (refine wpList_load_view (t := 3) x A1 A2 c1 c2 w.heap.size ?hg ?hw ?hx ?_; (case hg => exact hv2.box); (case hw => rfl); (case hx => rfl))
      go_upto_region 4 with (first | (go_at_call 18; refine (finger_Set x A1 A2 c1 c2 i n _ hv2.rep).mono ?_; rintro e W3 ⟨E1, e1, E2, e2, he, hr3, hb3, -, -⟩; rw [HS.out.2] at he; subst he) | (refine wpList_store_row rfl 25 (.tmp 7) (.tmp 23) rfl W3.heap.size ((setF x i n).cells E1 e1 E2 e2) rfl rfl 25 (View.zero.cells none 0 none 0) (VBox.new W3 View.zero none 0 none 0) (view_size _ _ _ _ _) rfl (View.oneCell _ _ _ _ _) ?_))
      refine name_world fun W4 hW4 => ?_
      obtain ⟨hw, hb4⟩ := has_new (w := w) hr3 hW4
      have hv := (hv2.below hb3).below hb4
      have hB := (hB2.trans (hb3.mono hB2.size)).trans (hb4.mono (hB2.trans (hb3.mono hB2.size)).size)
      have l7 : w.heap.size < W3.heap.size := Nat.lt_of_lt_of_le hv2.box.lt hb3.size
      have HA := Lib.hid (show ApartV (setF x i n) E1 E2 W3.heap.size from ApartV.old hr3 (Nat.le_refl _))
      clear hW4 hv0 hB0 hb1 hv1 hB1 hb2 hv2 hB2 hb3 hb4 hr3
      obtain ⟨B7, hB7e⟩ : ∃ B, W3.heap.size = B := ⟨_, rfl⟩
      rw [hB7e] at hw l7 HA ⊢
      clear hB7e
      rw [HS.out.1] at hw
      go_wp2_with (first | (refine wpList_load_view (t := 7) x E1 E2 e1 e2 B7 ?hg ?hw ?hx ?_; (case hg => exact hw.box); (case hw => rfl); (case hx => rfl)) | (refine wpList_load_view (t := 3) x A1 A2 c1 c2 w.heap.size ?hg ?hw ?hx ?_; (case hg => exact hv.box); (case hw => rfl); (case hx => rfl)) | (go_at_call 20; refine (r13_Same x x E1 E2 A1 A2 e1 e2 c1 c2 _ hw.rep hv.rep).mono ?_; rintro e W6 ⟨he, hb6⟩; rw [same_refl] at he; subst he; have hv := hv.below hb6; have hB := hB.trans (hb6.mono hB.size); have p0 := hv.box.cells.1) | (go_at_call 13; refine (law17_wakes _ (hst.below hB)).mono ?_; rintro e W7 ⟨rfl, hb7⟩; have hB7 := hB.trans (hb7.mono hB.size)))
      go_ret
      exact ⟨rfl, hB7⟩
    | false =>
      cases e3 : decide (n < 0) with
      | true =>
        have HS := Lib.hid (set_no (show setOk x i n = false by simp at e3; simp [setOk, isPl]; omega))
        refine wp_region_lit ?_
        (refine wpList_load_view (t := 3) x A1 A2 c1 c2 w.heap.size ?hg ?hw ?hx ?_; (case hg => exact hv2.box); (case hw => rfl); (case hx => rfl))
        go_upto_region 4 with (first | (go_at_call 18; refine (finger_Set x A1 A2 c1 c2 i n _ hv2.rep).mono ?_; rintro e W3 ⟨E1, e1, E2, e2, he, hr3, hb3, -, -⟩; rw [HS.out.2] at he; subst he) | (refine wpList_store_row rfl 25 (.tmp 7) (.tmp 23) rfl W3.heap.size ((setF x i n).cells E1 e1 E2 e2) rfl rfl 25 (View.zero.cells none 0 none 0) (VBox.new W3 View.zero none 0 none 0) (view_size _ _ _ _ _) rfl (View.oneCell _ _ _ _ _) ?_))
        refine name_world fun W4 hW4 => ?_
        obtain ⟨hw, hb4⟩ := has_new (w := w) hr3 hW4
        have hv := (hv2.below hb3).below hb4
        have hB := (hB2.trans (hb3.mono hB2.size)).trans (hb4.mono (hB2.trans (hb3.mono hB2.size)).size)
        have l7 : w.heap.size < W3.heap.size := Nat.lt_of_lt_of_le hv2.box.lt hb3.size
        have HA := Lib.hid (show ApartV (setF x i n) E1 E2 W3.heap.size from ApartV.old hr3 (Nat.le_refl _))
        clear hW4 hv0 hB0 hb1 hv1 hB1 hb2 hv2 hB2 hb3 hb4 hr3
        obtain ⟨B7, hB7e⟩ : ∃ B, W3.heap.size = B := ⟨_, rfl⟩
        rw [hB7e] at hw l7 HA ⊢
        clear hB7e
        rw [HS.out.1] at hw
        go_wp2_with (first | (refine wpList_load_view (t := 7) x E1 E2 e1 e2 B7 ?hg ?hw ?hx ?_; (case hg => exact hw.box); (case hw => rfl); (case hx => rfl)) | (refine wpList_load_view (t := 3) x A1 A2 c1 c2 w.heap.size ?hg ?hw ?hx ?_; (case hg => exact hv.box); (case hw => rfl); (case hx => rfl)) | (go_at_call 20; refine (r13_Same x x E1 E2 A1 A2 e1 e2 c1 c2 _ hw.rep hv.rep).mono ?_; rintro e W6 ⟨he, hb6⟩; rw [same_refl] at he; subst he; have hv := hv.below hb6; have hB := hB.trans (hb6.mono hB.size); have p0 := hv.box.cells.1) | (go_at_call 13; refine (law17_wakes _ (hst.below hB)).mono ?_; rintro e W7 ⟨rfl, hb7⟩; have hB7 := hB.trans (hb7.mono hB.size)))
        go_ret
        exact ⟨rfl, hB7⟩
      | false =>
        cases e4 : decide (65536 ≤ n) with
        | true =>
          have HS := Lib.hid (set_no (show setOk x i n = false by simp at e4; simp [setOk, isPl]; omega))
          refine wp_region_lit ?_
          (refine wpList_load_view (t := 3) x A1 A2 c1 c2 w.heap.size ?hg ?hw ?hx ?_; (case hg => exact hv2.box); (case hw => rfl); (case hx => rfl))
          go_upto_region 4 with (first | (go_at_call 18; refine (finger_Set x A1 A2 c1 c2 i n _ hv2.rep).mono ?_; rintro e W3 ⟨E1, e1, E2, e2, he, hr3, hb3, -, -⟩; rw [HS.out.2] at he; subst he) | (refine wpList_store_row rfl 25 (.tmp 7) (.tmp 23) rfl W3.heap.size ((setF x i n).cells E1 e1 E2 e2) rfl rfl 25 (View.zero.cells none 0 none 0) (VBox.new W3 View.zero none 0 none 0) (view_size _ _ _ _ _) rfl (View.oneCell _ _ _ _ _) ?_))
          refine name_world fun W4 hW4 => ?_
          obtain ⟨hw, hb4⟩ := has_new (w := w) hr3 hW4
          have hv := (hv2.below hb3).below hb4
          have hB := (hB2.trans (hb3.mono hB2.size)).trans (hb4.mono (hB2.trans (hb3.mono hB2.size)).size)
          have l7 : w.heap.size < W3.heap.size := Nat.lt_of_lt_of_le hv2.box.lt hb3.size
          have HA := Lib.hid (show ApartV (setF x i n) E1 E2 W3.heap.size from ApartV.old hr3 (Nat.le_refl _))
          clear hW4 hv0 hB0 hb1 hv1 hB1 hb2 hv2 hB2 hb3 hb4 hr3
          obtain ⟨B7, hB7e⟩ : ∃ B, W3.heap.size = B := ⟨_, rfl⟩
          rw [hB7e] at hw l7 HA ⊢
          clear hB7e
          rw [HS.out.1] at hw
          go_wp2_with (first | (refine wpList_load_view (t := 7) x E1 E2 e1 e2 B7 ?hg ?hw ?hx ?_; (case hg => exact hw.box); (case hw => rfl); (case hx => rfl)) | (refine wpList_load_view (t := 3) x A1 A2 c1 c2 w.heap.size ?hg ?hw ?hx ?_; (case hg => exact hv.box); (case hw => rfl); (case hx => rfl)) | (go_at_call 20; refine (r13_Same x x E1 E2 A1 A2 e1 e2 c1 c2 _ hw.rep hv.rep).mono ?_; rintro e W6 ⟨he, hb6⟩; rw [same_refl] at he; subst he; have hv := hv.below hb6; have hB := hB.trans (hb6.mono hB.size); have p0 := hv.box.cells.1) | (go_at_call 13; refine (law17_wakes _ (hst.below hB)).mono ?_; rintro e W7 ⟨rfl, hb7⟩; have hB7 := hB.trans (hb7.mono hB.size)))
          go_ret
          exact ⟨rfl, hB7⟩
        | false =>
          obtain ⟨k, rfl⟩ : ∃ k : Nat, i = k := ⟨i.toNat, by simp at e1; omega⟩
          have hk : k < 16 := by simp at e2; omega
          have HS := Lib.hid (set_yes (show setOk x k n = true by simp at e3 e4; simp [setOk, knownF, isPl, hr]; omega))
          refine wp_region_lit ?_
          (refine wpList_load_view (t := 3) x A1 A2 c1 c2 w.heap.size ?hg ?hw ?hx ?_; (case hg => exact hv2.box); (case hw => rfl); (case hx => rfl))
          go_upto_region 4 with (first | (go_at_call 18; refine (finger_Set x A1 A2 c1 c2 k n _ hv2.rep).mono ?_; rintro e W3 ⟨E1, e1, E2, e2, he, hr3, hb3, -, -⟩; rw [HS.out.2] at he; subst he) | (refine wpList_store_row rfl 25 (.tmp 7) (.tmp 23) rfl W3.heap.size ((setF x k n).cells E1 e1 E2 e2) rfl rfl 25 (View.zero.cells none 0 none 0) (VBox.new W3 View.zero none 0 none 0) (view_size _ _ _ _ _) rfl (View.oneCell _ _ _ _ _) ?_))
          refine name_world fun W4 hW4 => ?_
          obtain ⟨hw, hb4⟩ := has_new (w := w) hr3 hW4
          have hv := (hv2.below hb3).below hb4
          have hB := (hB2.trans (hb3.mono hB2.size)).trans (hb4.mono (hB2.trans (hb3.mono hB2.size)).size)
          have l7 : w.heap.size < W3.heap.size := Nat.lt_of_lt_of_le hv2.box.lt hb3.size
          have HA := Lib.hid (show ApartV (setF x k n) E1 E2 W3.heap.size from ApartV.old hr3 (Nat.le_refl _))
          clear hW4 hv0 hB0 hb1 hv1 hB1 hb2 hv2 hB2 hb3 hb4 hr3
          obtain ⟨B7, hB7e⟩ : ∃ B, W3.heap.size = B := ⟨_, rfl⟩
          rw [hB7e] at hw l7 HA ⊢
          clear hB7e
          rw [HS.out.1] at hw
          have p1 : W4.cell? ⟨B7, 4 + k, none⟩ = some (.int .i64 (otherF x n)) := by have := hw.box.finger hk; simpa [View.withF] using this
          have p2 := hv.box.finger hk
          have p3 := hw.box.frozen
          go_upto_region 8 with (fail)
          refine name_world fun W5 hW5 => ?_
          have hw5 : Has w W5 B7 x E1 e1 E2 e2 := by
            rw [← hW5]
            refine ⟨?_, RepV.setA (x := x) (p := ⟨B7, 4 + k, none⟩) ⟨hw.rep.base, hw.rep.list⟩ _ (show ApartV x E1 E2 B7 by have := HA.out; rw [HS.out.1] at this; exact this)⟩
            have := hw.box.setF hk (x.f k)
            rwa [withF_twice, withF_self] at this
          have hv5 : Has w W5 w.heap.size x A1 c1 A2 c2 := by rw [← hW5]; exact ⟨hv.box.other (p := ⟨B7, 4 + k, none⟩) (by show w.heap.size ≠ B7; omega) _, hv.rep.setA (p := ⟨B7, 4 + k, none⟩) _ (ApartV.old h (Nat.le_of_lt l7))⟩
          have hB5 : Below w.heap.size w W5 := by rw [← hW5]; exact hB.setCell (p := ⟨B7, 4 + k, none⟩) (Nat.le_of_lt l7) _
          clear hW5 p1 p2 p3 hw hv hB
          have hv := hv5
          have hw := hw5
          have hB := hB5
          clear hv5 hw5 hB5
          cases eo : (n == x.id) with
          | false =>
            have ho : otherF x n = n := other_ne eo
            have ho2 : (n != x.id) = true := by simp only [bne, eo]; rfl
            rw [ho]
            go_wp2_with (first | (refine wpList_load_view (t := 7) x E1 E2 e1 e2 B7 ?hg ?hw ?hx ?_; (case hg => exact hw.box); (case hw => rfl); (case hx => rfl)) | (refine wpList_load_view (t := 3) x A1 A2 c1 c2 w.heap.size ?hg ?hw ?hx ?_; (case hg => exact hv.box); (case hw => rfl); (case hx => rfl)) | (go_at_call 20; refine (r13_Same x x E1 E2 A1 A2 e1 e2 c1 c2 _ hw.rep hv.rep).mono ?_; rintro e W6 ⟨he, hb6⟩; rw [same_refl] at he; subst he; have hv := hv.below hb6; have hB := hB.trans (hb6.mono hB.size); have p0 := hv.box.cells.1) | (go_at_call 13; refine (law17_wakes _ (hst.below hB)).mono ?_; rintro e W7 ⟨rfl, hb7⟩; have hB7 := hB.trans (hb7.mono hB.size)))
            go_ret
            exact ⟨rfl, hB7⟩
          | true =>
            have ho : otherF x n = -1 := other_eq eo
            have ho2 : ((-1 : Int) == n) = false := by simp at e3; rw [beq_eq_false_iff_ne]; omega
            rw [ho]
            go_wp2_with (first | (refine wpList_load_view (t := 7) x E1 E2 e1 e2 B7 ?hg ?hw ?hx ?_; (case hg => exact hw.box); (case hw => rfl); (case hx => rfl)) | (refine wpList_load_view (t := 3) x A1 A2 c1 c2 w.heap.size ?hg ?hw ?hx ?_; (case hg => exact hv.box); (case hw => rfl); (case hx => rfl)) | (go_at_call 20; refine (r13_Same x x E1 E2 A1 A2 e1 e2 c1 c2 _ hw.rep hv.rep).mono ?_; rintro e W6 ⟨he, hb6⟩; rw [same_refl] at he; subst he; have hv := hv.below hb6; have hB := hB.trans (hb6.mono hB.size); have p0 := hv.box.cells.1) | (go_at_call 13; refine (law17_wakes _ (hst.below hB)).mono ?_; rintro e W7 ⟨rfl, hb7⟩; have hB7 := hB.trans (hb7.mono hB.size)))
            go_ret
            exact ⟨rfl, hB7⟩

set_option maxRecDepth 100000 in
set_option maxHeartbeats 1000000 in
theorem law_FingerSets_great (x : View) (A1 A2 : Option Addr) (c1 c2 : Nat) (i n : Int) (w : World) (hst : Steps w) (hg : greatV x = true) :
    Calls Tryd.prog 6 #[x.v A1 c1 A2 c2, .int .i64 i, .int .i64 n] w fun e w' => e = .returned (.bool true) ∧ Below w.heap.size w w' := by
  unfold View.v
  go_enter Tryd.func6, Tryd.ntmps6
  go_upto_region 1 with (fail)
  refine name_world fun W0 hW0 => ?_
  have hT := one_start hW0
  clear hW0
  have hv0 := hT
  have hB0 := hT.b
  clear hT
  go_wp2_with (first | (refine wpList_load_view (t := 3) x A1 A2 c1 c2 w.heap.size ?hg ?hw ?hx ?_; (case hg => exact hv0.box); (case hw => rfl); (case hx => rfl)) | (go_at_call 12; refine (r15_Great x A1 A2 c1 c2 _).mono ?_; rintro e W1 ⟨he, hb1⟩; rw [hg] at he; subst he; have hv1 := hv0.below hb1; have hB1 := hB0.trans (hb1.mono hB0.size)) | (go_at_call 13; refine (law17_wakes _ (hst.below hB1)).mono ?_; rintro e W9 ⟨rfl, hb9⟩; have hB9 := hB1.trans (hb9.mono hB1.size)))
  go_ret
  exact ⟨rfl, hB9⟩

set_option maxRecDepth 100000 in
set_option maxHeartbeats 1000000 in
theorem law_FingerSets_bad (x : View) (A1 A2 : Option Addr) (c1 c2 : Nat) (i n : Int) (w : World) (hst : Steps w) (h : RepV w x A1 c1 A2 c2) (hg : greatV x = false) (hr : rightV x = false) :
    Calls Tryd.prog 6 #[x.v A1 c1 A2 c2, .int .i64 i, .int .i64 n] w fun e w' => e = .returned (.bool true) ∧ Below w.heap.size w w' := by
  unfold View.v
  go_enter Tryd.func6, Tryd.ntmps6
  go_upto_region 1 with (fail)
  refine name_world fun W0 hW0 => ?_
  have hT := one_start hW0
  clear hW0
  have hv0 : Has w W0 w.heap.size x A1 c1 A2 c2 := ⟨hT.box, h.below hT.b⟩
  have hB0 := hT.b
  clear hT
  go_wp2_with (first | (refine wpList_load_view (t := 3) x A1 A2 c1 c2 w.heap.size ?hg ?hw ?hx ?_; (case hg => exact hv0.box); (case hw => rfl); (case hx => rfl)) | (go_at_call 12; refine (r15_Great x A1 A2 c1 c2 _).mono ?_; rintro e W1 ⟨he, hb1⟩; rw [hg] at he; subst he; have hv1 := hv0.below hb1; have hB1 := hB0.trans (hb1.mono hB0.size)) | (refine wpList_load_view (t := 3) x A1 A2 c1 c2 w.heap.size ?hg ?hw ?hx ?_; (case hg => exact hv1.box); (case hw => rfl); (case hx => rfl)) | (go_at_call 25; refine (r13_Right x A1 A2 c1 c2 _ hv1.rep.base hv1.rep.list).mono ?_; rintro e W2 ⟨he, hb2⟩; rw [hr] at he; subst he; have hv2 := hv1.below hb2; have hB2 := hB1.trans (hb2.mono hB1.size)) | (go_at_call 13; refine (law17_wakes _ (hst.below hB2)).mono ?_; rintro e W9 ⟨rfl, hb9⟩; have hB9 := hB2.trans (hb9.mono hB2.size)))
  go_ret
  exact ⟨rfl, hB9⟩

theorem law_FingerSets (x : View) (A1 A2 : Option Addr) (c1 c2 : Nat) (i n : Int) (w : World) (hst : Steps w) (h : greatV x = false → RepV w x A1 c1 A2 c2) :
    Calls Tryd.prog 6 #[x.v A1 c1 A2 c2, .int .i64 i, .int .i64 n] w fun e w' => e = .returned (.bool true) ∧ Below w.heap.size w w' := by
  cases hg : greatV x with
  | true => exact law_FingerSets_great x A1 A2 c1 c2 i n w hst hg
  | false =>
    cases hr : rightV x with
    | false => exact law_FingerSets_bad x A1 A2 c1 c2 i n w hst (h hg) hg hr
    | true => exact law_FingerSets_main x A1 A2 c1 c2 i n w hst (h hg) hg hr
end Go.Proofs.YtbjgfcempfpfcaaDoor
