/- The law RectGone. -/
import Derived.Test.YtbjgfcempfpfcaaBC
namespace Go.Proofs.Ytbjgfcempfpfcaa
open Go.RowKit Go.Shelf

theorem gonelaw_one {x : View} (hr : rightV x = true) (d n : Int) (P : Prop)
    (c1 : decide (0 ≤ (goneV x d).pred) = true → P)
    (c2 : decide (0 ≤ (goneV x d).pred) = false → decide (n < 0) = true → P)
    (c3 : decide (0 ≤ (goneV x d).pred) = false → decide (n < 0) = false → decide (65536 ≤ n) = true → P)
    (c4 : decide (0 ≤ (goneV x d).pred) = false → decide (n < 0) = false → decide (65536 ≤ n) = false → (n == x.id) = true → P)
    (c5 : decide (0 ≤ (goneV x d).pred) = false → decide (n < 0) = false → decide (65536 ≤ n) = false → (n == x.id) = false → ((notifyV (goneV x d) [n]).pred == n) = true → P) : P :=
  onelaw_cases (gone_right hr d) n P c1 c2 c3 (by rw [gone_id]; exact c4) (by rw [gone_id]; exact c5)

set_option maxRecDepth 100000 in
set_option maxHeartbeats 8000000 in
theorem law_RectGone_main (x : View) (A1 A2 : Option Addr) (c1 c2 : Nat) (d n : Int) (w : World) (h : RepV w x A1 c1 A2 c2) (hg : greatV x = false) (hr : rightV x = true) :
    Calls Try.prog 6 #[x.v A1 c1 A2 c2, .int .i64 d, .int .i64 n] w fun e w' => e = .returned (.bool true) ∧ Below w.heap.size w w' := by
  have hsm := h.base.small
  unfold View.v
  go_enter Try.func6, Try.ntmps6
  go_upto_region 1 with (fail)
  refine name_world fun W0 hW0 => ?_
  have hT := one_start hW0
  clear hW0
  have hv0 : Has w W0 w.heap.size x A1 c1 A2 c2 := ⟨hT.box, h.below hT.b⟩
  have hB0 := hT.b
  clear hT
  go_upto_region 3 with (first | (refine wpList_load_view (t := 3) x A1 A2 c1 c2 w.heap.size ?hg ?hw ?hx ?_; (case hg => exact hv0.box); (case hw => rfl); (case hx => rfl)) | (go_at_call 16; refine (r15_Great x A1 A2 c1 c2 _).mono ?_; rintro e W1 ⟨he, hb1⟩; rw [hg] at he; subst he; have hv1 := hv0.below hb1; have hB1 := hB0.trans (hb1.mono hB0.size)) | (refine wpList_load_view (t := 3) x A1 A2 c1 c2 w.heap.size ?hg ?hw ?hx ?_; (case hg => exact hv1.box); (case hw => rfl); (case hx => rfl)) | (go_at_call 29; refine (r13_Right x A1 A2 c1 c2 _ hv1.rep.base hv1.rep.list).mono ?_; rintro e W2 ⟨he, hb2⟩; rw [hr] at he; subst he; have hv2 := hv1.below hb2; have hB2 := hB1.trans (hb2.mono hB1.size)))
  have HV := Lib.hid (And.intro hv2 hB2)
  clear hv0 hB0 hb1 hv1 hB1 hb2 hv2 hB2 h
  go_wp2
  go_loopw [7, 8] (fun t i wr => ∃ k : Nat, k ≤ x.base.length ∧ t = .bool (decide (d ∈ x.base.take k)) ∧ i = .int .i64 k ∧ Hid (Has w wr w.heap.size x A1 c1 A2 c2 ∧ Below w.heap.size w wr)) (fun t i _ => x.base.length - (intOf i).toNat)
  case atStart => exact ⟨0, Nat.zero_le _, by simp, rfl, HV⟩
  case round =>
    clear HV
    obtain ⟨k, hk, rfl, rfl, hV⟩ := hrel
    have q1 := hV.out.1.box.cells.2.1
    have hcap := hV.out.1.rep.base.cap
    by_cases hlt : k < x.base.length
    · obtain ⟨b, off, rfl, hbl, -⟩ := hV.out.1.rep.base.at_ (by omega)
      have hc0 := hV.out.1.rep.base.cell hlt
      have hn := mem_take_next d hlt
      cases hm : decide (d ∈ x.base.take k) with
      | true =>
        rw [hm, Bool.true_or] at hn
        have HN := Lib.hid hn
        clear hn
        go_wp2
        go_roundw
        case rel => exact ⟨k + 1, by omega, by rw [HN.out], by go_num, hV⟩
        case measure => simp [intOf]; omega
      | false =>
        rw [hm, Bool.false_or] at hn
        have HN := Lib.hid hn
        clear hn
        go_wp2
        go_roundw
        case rel => exact ⟨k + 1, by omega, by rw [HN.out], by go_num, hV⟩
        case measure => simp [intOf]; omega
    · obtain rfl : k = x.base.length := by omega
      rw [List.take_length]
      go_upto_region 8 with (fail)
      obtain ⟨hv, hB⟩ := hV.out
      clear q1 hV
      refine wp_region_lit ?_
      (refine wpList_load_view (t := 3) x A1 A2 c1 c2 w.heap.size ?hg ?hw ?hx ?_; (case hg => exact hv.box); (case hw => rfl); (case hx => rfl))
      go_upto_region 9 with (first | (go_at_call 27; refine (rect_Gone x A1 A2 c1 c2 _ hv.rep d).mono ?_; rintro e W1 ⟨E1, e1, E2, e2, rfl, hg1, hb1, -, -⟩) | (refine wpList_store_row rfl 25 (.tmp 9) (.tmp 39) rfl W1.heap.size ((goneV x d).cells E1 e1 E2 e2) rfl rfl 25 (View.zero.cells none 0 none 0) (VBox.new W1 View.zero none 0 none 0) (view_size _ _ _ _ _) rfl (View.oneCell _ _ _ _ _) ?_))
      refine name_world fun W2 hW2 => ?_
      obtain ⟨hw2, hb2⟩ := has_new (w := w) hg1 hW2
      have hv2 := (hv.below hb1).below hb2
      have hB2 := (hB.trans (hb1.mono hB.size)).trans (hb2.mono (hB.trans (hb1.mono hB.size)).size)
      have l9 : w.heap.size < W1.heap.size := Nat.lt_of_lt_of_le hv.box.lt hb1.size
      clear hW2 hv hB hb1 hb2 hg1
      obtain ⟨B9, hB9⟩ : ∃ B, W1.heap.size = B := ⟨_, rfl⟩
      rw [hB9] at hw2 l9 ⊢
      clear hB9
      refine wp_region_lit ?_
      (refine wpList_load_view (t := 9) (goneV x d) E1 E2 e1 e2 B9 ?hg ?hw ?hx ?_; (case hg => exact hw2.box); (case hw => rfl); (case hx => rfl))
      go_upto_region 10 with (first | (go_at_call 31; refine (r13_Own (goneV x d) E1 E2 e1 e2 _ hw2.rep).mono ?_; rintro e W3 ⟨S1, s1, S2, s2, rfl, rs3, hb3, -, -⟩) | (refine wpList_store_row rfl 25 (.tmp 10) (.tmp 41) rfl W3.heap.size ((goneV x d).cells S1 s1 S2 s2) rfl rfl 25 (View.zero.cells none 0 none 0) (VBox.new W3 View.zero none 0 none 0) (view_size _ _ _ _ _) rfl (View.oneCell _ _ _ _ _) ?_))
      refine name_world fun W4 hW4 => ?_
      obtain ⟨hs4, hb4⟩ := has_new (w := w) rs3 hW4
      have rv3 := hv2.rep.below hb3
      have rw3 := hw2.rep.below hb3
      have hv4 := (hv2.below hb3).below hb4
      have hw4 := (hw2.below hb3).below hb4
      have hB4 := (hB2.trans (hb3.mono hB2.size)).trans (hb4.mono (hB2.trans (hb3.mono hB2.size)).size)
      have l10 : B9 < W3.heap.size := Nat.lt_of_lt_of_le hw2.box.lt hb3.size
      have hle : W3.heap.size ≤ W3.heap.size := Nat.le_refl _
      clear hW4 hv2 hw2 hB2 hb3 hb4
      obtain ⟨B10, hB10⟩ : ∃ B, W3.heap.size = B := ⟨_, rfl⟩
      rw [hB10] at hs4 l10 ⊢
      have hle : W3.heap.size ≤ B10 := by omega
      clear hB10
      have p3 := hv4.box.cells.2.2.2.1
      have r3 := hs4.box.cells.2.2.2.1
      have r4 := hs4.box.frozen
      go_upto_region 11 with (fail)
      refine name_world fun W5 hW5 => ?_
      have hs5 : Has w W5 B10 ((goneV x d).withPred x.pred) S1 s1 S2 s2 := by rw [← hW5]; exact Has.setPred rs3 hs4 x.pred hle
      rw [gone_same] at hs5
      have hv5 : Has w W5 w.heap.size x A1 c1 A2 c2 := by rw [← hW5]; exact Has.setNew rv3 hv4 _ _ hle (by show w.heap.size ≠ B10; omega)
      have hw5 : Has w W5 B9 (goneV x d) E1 e1 E2 e2 := by rw [← hW5]; exact Has.setNew rw3 hw4 _ _ hle (by show B9 ≠ B10; omega)
      have hB5 : Below w.heap.size w W5 := by rw [← hW5]; exact hB4.setCell (p := ⟨B10, 3, none⟩) (by show w.heap.size ≤ B10; omega) _
      clear hW5 hs4 hv4 hw4 hB4 p3 r3 r4 rv3 rw3 rs3
      refine wp_region_lit ?_
      (refine wpList_load_view (t := 10) x S1 S2 s1 s2 B10 ?hg ?hw ?hx ?_; (case hg => exact hs5.box); (case hw => rfl); (case hx => rfl))
      (refine wpList_load_view (t := 3) x A1 A2 c1 c2 w.heap.size ?hg ?hw ?hx ?_; (case hg => exact hv5.box); (case hw => rfl); (case hx => rfl))
      refine gonelaw_cases hr d _ ?_ ?_ ?_ ?_ <;> intros
      all_goals (go_upto_region 13 with (go_at_call 22; refine (r13_Same x x S1 S2 A1 A2 s1 s2 c1 c2 _ hs5.rep hv5.rep).mono ?_; rintro e W6 ⟨he, hb6⟩; rw [same_refl] at he; subst he; have hv6 := hv5.below hb6; have hw6 := hw5.below hb6; have hB6 := hB5.trans (hb6.mono hB5.size); have p3 := hv6.box.cells.2.2.2.1; have q3 := hw6.box.cells.2.2.2.1))
      all_goals
        clear p3 q3 hs5 hv5 hw5 hB5 hb6
        refine wp_region_lit ?_
        (refine wpList_load_view (t := 9) (goneV x d) E1 E2 e1 e2 B9 ?hg ?hw ?hx ?_; (case hg => exact hw6.box); (case hw => rfl); (case hx => rfl))
        go_upto_region 14 with (first | (go_at_call 23; refine (rect_Notify (goneV x d) E1 E2 e1 e2 _ (hw6.rep.below ((Below.refl _ W6).alloc (Nat.le_refl _) _)) _ _ [n] (Sl.lit W6 [n] (by simp))).mono ?_; rintro e W7 ⟨U1, u1, U2, u2, rfl, hu7, hb7, -, -⟩) | (refine wpList_store_row rfl 25 (.tmp 11) (.tmp 87) rfl W7.heap.size ((notifyV (goneV x d) [n]).cells U1 u1 U2 u2) rfl rfl 25 (View.zero.cells none 0 none 0) (VBox.new W7 View.zero none 0 none 0) (view_size _ _ _ _ _) rfl (View.oneCell _ _ _ _ _) ?_))
        refine name_world fun W8 hW8 => ?_
        obtain ⟨hu8, hb8⟩ := has_new (w := w) hu7 hW8
        have hb67 := ((Below.refl _ W6).alloc (Nat.le_refl _) _).trans (hb7.mono (by simp))
        have hv8 := (hv6.below hb67).below hb8
        have hw8 := (hw6.below hb67).below hb8
        have hB8 := (hB6.trans (hb67.mono hB6.size)).trans (hb8.mono (hB6.trans (hb67.mono hB6.size)).size)
        clear hW8 hv6 hw6 hB6 hb67 hb7 hb8 hu7
        obtain ⟨B11, hB11⟩ : ∃ B, W7.heap.size = B := ⟨_, rfl⟩
        rw [hB11] at hu8 ⊢
        clear hB11
        have p0 := hv8.box.cells.1
        have q3 := hw8.box.cells.2.2.2.1
        have r3 := hu8.box.cells.2.2.2.1
        refine gonelaw_one hr d n _ ?_ ?_ ?_ ?_ ?_ <;> intros
        all_goals (go_wp2_with (first | (refine wpList_load_view (t := 9) (goneV x d) E1 E2 e1 e2 B9 ?hg ?hw ?hx ?_; (case hg => exact hw8.box); (case hw => rfl); (case hx => rfl)) | (go_at_call 29; refine (r13_Right (goneV x d) E1 E2 e1 e2 _ hw8.rep.base hw8.rep.list).mono ?_; rintro e W9 ⟨he, hb9⟩; rw [gone_right hr d] at he; subst he; have hB9 := hB8.trans (hb9.mono hB8.size)) | (go_at_call 17; refine (law15_wakes _).mono ?_; rintro e W10 ⟨rfl, hb10⟩; have hB10 := hB9.trans (hb10.mono hB9.size))))
        all_goals (go_ret; exact ⟨rfl, hB10⟩)

set_option maxRecDepth 100000 in
set_option maxHeartbeats 1000000 in
theorem law_RectGone_great (x : View) (A1 A2 : Option Addr) (c1 c2 : Nat) (d n : Int) (w : World) (hg : greatV x = true) :
    Calls Try.prog 6 #[x.v A1 c1 A2 c2, .int .i64 d, .int .i64 n] w fun e w' => e = .returned (.bool true) ∧ Below w.heap.size w w' := by
  unfold View.v
  go_enter Try.func6, Try.ntmps6
  go_upto_region 1 with (fail)
  refine name_world fun W0 hW0 => ?_
  have hT := one_start hW0
  clear hW0
  have hv0 := hT
  have hB0 := hT.b
  clear hT
  go_wp2_with (first | (refine wpList_load_view (t := 3) x A1 A2 c1 c2 w.heap.size ?hg ?hw ?hx ?_; (case hg => exact hv0.box); (case hw => rfl); (case hx => rfl)) | (go_at_call 16; refine (r15_Great x A1 A2 c1 c2 _).mono ?_; rintro e W1 ⟨he, hb1⟩; rw [hg] at he; subst he; have hv1 := hv0.below hb1; have hB1 := hB0.trans (hb1.mono hB0.size)) | (go_at_call 17; refine (law15_wakes _).mono ?_; rintro e W9 ⟨rfl, hb9⟩; have hB9 := hB1.trans (hb9.mono hB1.size)))
  go_ret
  exact ⟨rfl, hB9⟩

set_option maxRecDepth 100000 in
set_option maxHeartbeats 1000000 in
theorem law_RectGone_bad (x : View) (A1 A2 : Option Addr) (c1 c2 : Nat) (d n : Int) (w : World) (h : RepV w x A1 c1 A2 c2) (hg : greatV x = false) (hr : rightV x = false) :
    Calls Try.prog 6 #[x.v A1 c1 A2 c2, .int .i64 d, .int .i64 n] w fun e w' => e = .returned (.bool true) ∧ Below w.heap.size w w' := by
  unfold View.v
  go_enter Try.func6, Try.ntmps6
  go_upto_region 1 with (fail)
  refine name_world fun W0 hW0 => ?_
  have hT := one_start hW0
  clear hW0
  have hv0 : Has w W0 w.heap.size x A1 c1 A2 c2 := ⟨hT.box, h.below hT.b⟩
  have hB0 := hT.b
  clear hT
  go_wp2_with (first | (refine wpList_load_view (t := 3) x A1 A2 c1 c2 w.heap.size ?hg ?hw ?hx ?_; (case hg => exact hv0.box); (case hw => rfl); (case hx => rfl)) | (go_at_call 16; refine (r15_Great x A1 A2 c1 c2 _).mono ?_; rintro e W1 ⟨he, hb1⟩; rw [hg] at he; subst he; have hv1 := hv0.below hb1; have hB1 := hB0.trans (hb1.mono hB0.size)) | (refine wpList_load_view (t := 3) x A1 A2 c1 c2 w.heap.size ?hg ?hw ?hx ?_; (case hg => exact hv1.box); (case hw => rfl); (case hx => rfl)) | (go_at_call 29; refine (r13_Right x A1 A2 c1 c2 _ hv1.rep.base hv1.rep.list).mono ?_; rintro e W2 ⟨he, hb2⟩; rw [hr] at he; subst he; have hv2 := hv1.below hb2; have hB2 := hB1.trans (hb2.mono hB1.size)) | (go_at_call 17; refine (law15_wakes _).mono ?_; rintro e W9 ⟨rfl, hb9⟩; have hB9 := hB2.trans (hb9.mono hB2.size)))
  go_ret
  exact ⟨rfl, hB9⟩

theorem law_RectGone (x : View) (A1 A2 : Option Addr) (c1 c2 : Nat) (d n : Int) (w : World) (h : greatV x = false → RepV w x A1 c1 A2 c2) :
    Calls Try.prog 6 #[x.v A1 c1 A2 c2, .int .i64 d, .int .i64 n] w fun e w' => e = .returned (.bool true) ∧ Below w.heap.size w w' := by
  cases hg : greatV x with
  | true => exact law_RectGone_great x A1 A2 c1 c2 d n w hg
  | false =>
    cases hr : rightV x with
    | false => exact law_RectGone_bad x A1 A2 c1 c2 d n w (h hg) hg hr
    | true => exact law_RectGone_main x A1 A2 c1 c2 d n w (h hg) hg hr
end Go.Proofs.Ytbjgfcempfpfcaa
