/- The law FingerTells. -/
import Derived.Test.YtbjgfcempfpfcaaDoorCJ
namespace Go.Proofs.YtbjgfcempfpfcaaDoor
open Go.RowKit Go.Shelf

set_option maxRecDepth 100000 in
set_option maxHeartbeats 4000000 in
theorem law_FingerTells_main (x : View) (A1 A2 : Option Addr) (c1 c2 : Nat) (i n : Int) (A3 : Option Addr) (c3 : Nat) (l : List Int) (w : World) (hst : Steps w) (h : RepV w x A1 c1 A2 c2) (hs : Sl w A3 c3 l) (hg : greatV x = false) (hl : decide (60 < (l.length : Int)) = false) :
    Calls Tryd.prog 3 #[x.v A1 c1 A2 c2, .int .i64 i, .int .i64 n, .slice A3 l.length c3] w fun e w' => e = .returned (.bool true) ∧ Below w.heap.size w w' := by
  unfold View.v
  go_enter Tryd.func3, Tryd.ntmps3
  go_upto_region 1 with (fail)
  refine name_world fun W0 hW0 => ?_
  have hT := one_start hW0
  clear hW0
  have hv0 : Has w W0 w.heap.size x A1 c1 A2 c2 := ⟨hT.box, h.below hT.b⟩
  have hB0 := hT.b
  clear hT
  go_upto_region 3 with (first | (refine wpList_load_view (t := 4) x A1 A2 c1 c2 w.heap.size ?hg ?hw ?hx ?_; (case hg => exact hv0.box); (case hw => rfl); (case hx => rfl)) | (go_at_call 12; refine (r15_Great x A1 A2 c1 c2 _).mono ?_; rintro e W1 ⟨he, hb1⟩; rw [hg] at he; subst he; have hv1 := hv0.below hb1; have hB1 := hB0.trans (hb1.mono hB0.size)))
  clear hv0 hB0 hb1
  refine wp_region_lit ?_
  (refine wpList_load_view (t := 4) x A1 A2 c1 c2 w.heap.size ?hg ?hw ?hx ?_; (case hg => exact hv1.box); (case hw => rfl); (case hx => rfl))
  go_upto_region 4 with (first | (go_at_call 14; refine (finger_Start x A1 A2 c1 c2 i _ hv1.rep (hst.below hB1)).mono ?_; rintro e W2 ⟨rfl, hb2⟩; have hv2 := hv1.below hb2; have hB2 := hB1.trans (hb2.mono hB1.size)))
  clear hv1 hB1 hb2
  refine wp_region_lit ?_
  (refine wpList_load_view (t := 4) x A1 A2 c1 c2 w.heap.size ?hg ?hw ?hx ?_; (case hg => exact hv2.box); (case hw => rfl); (case hx => rfl))
  go_upto_region 5 with (first | (go_at_call 15; refine (r17_Start x A1 A2 c1 c2 i _ hv2.rep).mono ?_; rintro e W3 ⟨rfl, hb3⟩; have hv3 := hv2.below hb3; have hB3 := hB2.trans (hb3.mono hB2.size)))
  clear hv2 hB2 hb3
  refine wp_region_lit ?_
  (refine wpList_load_view (t := 4) x A1 A2 c1 c2 w.heap.size ?hg ?hw ?hx ?_; (case hg => exact hv3.box); (case hw => rfl); (case hx => rfl))
  go_upto_region 6 with (first | (go_at_call 16; refine (finger_Once x A1 A2 c1 c2 i _ hv3.rep (hst.below hB3)).mono ?_; rintro e W4 ⟨rfl, hb4⟩; have hv4 := hv3.below hb4; have hB4 := hB3.trans (hb4.mono hB3.size)))
  clear hv3 hB3 hb4
  refine wp_region_lit ?_
  (refine wpList_load_view (t := 4) x A1 A2 c1 c2 w.heap.size ?hg ?hw ?hx ?_; (case hg => exact hv4.box); (case hw => rfl); (case hx => rfl))
  go_upto_region 7 with (first | (go_at_call 17; refine (r17_Once x A1 A2 c1 c2 i _ hv4.rep).mono ?_; rintro e W5 ⟨rfl, hb5⟩; have hv5 := hv4.below hb5; have hB5 := hB4.trans (hb5.mono hB4.size)))
  clear hv4 hB4 hb5
  refine wp_region_lit ?_
  (refine wpList_load_view (t := 4) x A1 A2 c1 c2 w.heap.size ?hg ?hw ?hx ?_; (case hg => exact hv5.box); (case hw => rfl); (case hx => rfl))
  go_upto_region 8 with (first | (go_at_call 18; refine (finger_Set x A1 A2 c1 c2 i n _ hv5.rep).mono ?_; rintro e W6 ⟨D1, d1, D2, d2, rfl, hr6, hb6, -, -⟩) | (refine wpList_store_row rfl 25 (.tmp 17) (.tmp 66) rfl W6.heap.size ((setF x i n).cells D1 d1 D2 d2) rfl rfl 25 (View.zero.cells none 0 none 0) (VBox.new W6 View.zero none 0 none 0) (view_size _ _ _ _ _) rfl (View.oneCell _ _ _ _ _) ?_))
  refine name_world fun W7 hW7 => ?_
  obtain ⟨hd7, hb7⟩ := has_new (w := w) hr6 hW7
  have hv7 := (hv5.below hb6).below hb7
  have hB7 := (hB5.trans (hb6.mono hB5.size)).trans (hb7.mono (hB5.trans (hb6.mono hB5.size)).size)
  have l17 : w.heap.size < W6.heap.size := Nat.lt_of_lt_of_le hv5.box.lt hb6.size
  clear hW7 hv5 hB5 hb6 hb7 hr6
  obtain ⟨B17, hB17⟩ : ∃ B, W6.heap.size = B := ⟨_, rfl⟩
  rw [hB17] at hd7 l17 ⊢
  clear hB17
  refine wp_region_lit ?_
  (refine wpList_load_view (t := 4) x A1 A2 c1 c2 w.heap.size ?hg ?hw ?hx ?_; (case hg => exact hv7.box); (case hw => rfl); (case hx => rfl))
  go_upto_region 9 with (first | (go_at_call 19; refine (r17_Set x A1 A2 c1 c2 i n _ hv7.rep).mono ?_; rintro e W8 ⟨E1, e1, E2, e2, rfl, hr8, hb8, -, -⟩) | (refine wpList_store_row rfl 25 (.tmp 19) (.tmp 73) rfl W8.heap.size ((setF x i n).cells E1 e1 E2 e2) rfl rfl 25 (View.zero.cells none 0 none 0) (VBox.new W8 View.zero none 0 none 0) (view_size _ _ _ _ _) rfl (View.oneCell _ _ _ _ _) ?_))
  refine name_world fun W9 hW9 => ?_
  obtain ⟨he9, hb9⟩ := has_new (w := w) hr8 hW9
  have hv9 := (hv7.below hb8).below hb9
  have hd9 := (hd7.below hb8).below hb9
  have hB9 := (hB7.trans (hb8.mono hB7.size)).trans (hb9.mono (hB7.trans (hb8.mono hB7.size)).size)
  have l19 : B17 < W8.heap.size := Nat.lt_of_lt_of_le hd7.box.lt hb8.size
  clear hW9 hv7 hd7 hB7 hb8 hb9 hr8
  obtain ⟨B19, hB19⟩ : ∃ B, W8.heap.size = B := ⟨_, rfl⟩
  rw [hB19] at he9 l19 ⊢
  clear hB19
  have s1 : (startP x i != startP x i) = false := by simp
  have s2 : (startE x i != startE x i) = false := by simp
  have s3 : (onceP x i != onceP x i) = false := by simp
  have s4 : (onceF x i != onceF x i) = false := by simp
  have s5 : (setE x i n != setE x i n) = false := by simp
  go_upto_region 11 with (first | (refine wpList_load_view (t := 17) (setF x i n) D1 D2 d1 d2 B17 ?hg ?hw ?hx ?_; (case hg => exact hd9.box); (case hw => rfl); (case hx => rfl)) | (refine wpList_load_view (t := 19) (setF x i n) E1 E2 e1 e2 B19 ?hg ?hw ?hx ?_; (case hg => exact he9.box); (case hw => rfl); (case hx => rfl)) | (go_at_call 20; refine (r13_Same (setF x i n) (setF x i n) D1 D2 E1 E2 d1 d2 e1 e2 _ hd9.rep he9.rep).mono ?_; rintro e W10 ⟨he, hb10⟩; rw [same_refl] at he; subst he; have hv10 := hv9.below hb10; have hd10 := hd9.below hb10; have he10 := he9.below hb10; have hB10 := hB9.trans (hb10.mono hB9.size)))
  clear s1 s2 s3 s4 s5 hv9 hd9 he9 hB9 hb10
  refine wp_region_lit ?_
  (refine wpList_load_view (t := 4) x A1 A2 c1 c2 w.heap.size ?hg ?hw ?hx ?_; (case hg => exact hv10.box); (case hw => rfl); (case hx => rfl))
  go_upto_region 12 with (first | (go_at_call 21; refine (finger_Walk x A1 A2 c1 c2 i _ hv10.rep (hst.below hB10)).mono ?_; rintro e W11 ⟨G1, g1, G2, g2, rfl, hr11, hb11, q1, q2⟩; have hd11 := hd10.below hb11) | (refine wpList_store_row rfl 25 (.tmp 17) (.tmp 108) rfl B17 ((walkV x i).cells G1 g1 G2 g2) rfl rfl 25 ((setF x i n).cells D1 d1 D2 d2) hd11.box (view_size _ _ _ _ _) rfl (View.oneCell _ _ _ _ _) ?_))
  refine name_world fun W12 hW12 => ?_
  have a17 : ApartV (walkV x i) G1 G2 B17 := ApartV.fresh _ q1 q2 hd10.box.lt
  have a19 : ApartV (walkV x i) G1 G2 B19 := ApartV.fresh _ q1 q2 he10.box.lt
  have hv11 := hv10.below hb11
  have he11 := he10.below hb11
  have hB11 := hB10.trans (hb11.mono hB10.size)
  have hg12 : Has w W12 B17 (walkV x i) G1 g1 G2 g2 := by rw [← hW12]; exact ⟨hd11.box.setRow (walkV x i) G1 G2 g1 g2, hr11.rowA _ a17⟩
  have hv12 : Has w W12 w.heap.size x A1 c1 A2 c2 := by rw [← hW12]; exact ⟨(heap_setRow _ _ _ _ (by omega)).trans hv11.box, hv11.rep.rowA _ (ApartV.old h (Nat.le_of_lt l17))⟩
  have he12 : VBox W12 B19 (setF x i n) E1 e1 E2 e2 := by rw [← hW12]; exact (heap_setRow _ _ _ _ (by omega)).trans he11.box
  have hB12 : Below w.heap.size w W12 := by rw [← hW12]; exact below_setRow hB11 (by omega) _
  clear hW12 hv10 hd10 he10 hB10 hb11 hr11 hd11 hv11 he11 hB11 a17 q1 q2
  refine wp_region_lit ?_
  (refine wpList_load_view (t := 4) x A1 A2 c1 c2 w.heap.size ?hg ?hw ?hx ?_; (case hg => exact hv12.box); (case hw => rfl); (case hx => rfl))
  go_upto_region 13 with (first | (go_at_call 22; refine (r17_Walk x A1 A2 c1 c2 i _ hv12.rep).mono ?_; rintro e W13 ⟨K1, k1, K2, k2, rfl, hr13, hb13, q1, q2⟩; have he13 := he12.below hb13 he12.lt) | (refine wpList_store_row rfl 25 (.tmp 19) (.tmp 116) rfl B19 ((walkV x i).cells K1 k1 K2 k2) rfl rfl 25 ((setF x i n).cells E1 e1 E2 e2) he13 (view_size _ _ _ _ _) rfl (View.oneCell _ _ _ _ _) ?_))
  refine name_world fun W14 hW14 => ?_
  have b19 : ApartV (walkV x i) K1 K2 B19 := ApartV.fresh _ q1 q2 he12.lt
  have hv13 := hv12.below hb13
  have hg13 := hg12.below hb13
  have hB13 := hB12.trans (hb13.mono hB12.size)
  have hk14 : Has w W14 B19 (walkV x i) K1 k1 K2 k2 := by rw [← hW14]; exact ⟨he13.setRow (walkV x i) K1 K2 k1 k2, hr13.rowA _ b19⟩
  have hg14 : Has w W14 B17 (walkV x i) G1 g1 G2 g2 := by rw [← hW14]; exact ⟨(heap_setRow _ _ _ _ (by omega)).trans hg13.box, hg13.rep.rowA _ a19⟩
  have hv14 : Has w W14 w.heap.size x A1 c1 A2 c2 := by rw [← hW14]; exact ⟨(heap_setRow _ _ _ _ (by omega)).trans hv13.box, hv13.rep.rowA _ (ApartV.old h (by omega))⟩
  have hB14 : Below w.heap.size w W14 := by rw [← hW14]; exact below_setRow hB13 (by omega) _
  clear hW14 hv12 hg12 he12 hB12 hb13 hr13 he13 hv13 hg13 hB13 a19 b19 q1 q2
  refine wp_region_lit ?_
  (refine wpList_load_view (t := 4) x A1 A2 c1 c2 w.heap.size ?hg ?hw ?hx ?_; (case hg => exact hv14.box); (case hw => rfl); (case hx => rfl))
  go_upto_region 14 with (first | (go_at_call 23; refine (finger_Table x A1 A2 c1 c2 A3 c3 l _ hv14.rep (hs.below hB14) (hst.below hB14)).mono ?_; rintro e W15 ⟨M1, m1, M2, m2, rfl, hr15, hb15, -, -⟩) | (refine wpList_store_row rfl 25 (.tmp 27) (.tmp 124) rfl W15.heap.size ((tabV x l).cells M1 m1 M2 m2) rfl rfl 25 (View.zero.cells none 0 none 0) (VBox.new W15 View.zero none 0 none 0) (view_size _ _ _ _ _) rfl (View.oneCell _ _ _ _ _) ?_))
  refine name_world fun W16 hW16 => ?_
  obtain ⟨hm16, hb16⟩ := has_new (w := w) hr15 hW16
  have hv16 := (hv14.below hb15).below hb16
  have hg16 := (hg14.below hb15).below hb16
  have hk16 := (hk14.below hb15).below hb16
  have hB16 := (hB14.trans (hb15.mono hB14.size)).trans (hb16.mono (hB14.trans (hb15.mono hB14.size)).size)
  clear hW16 hv14 hg14 hk14 hB14 hb15 hb16 hr15
  obtain ⟨B27, hB27⟩ : ∃ B, W15.heap.size = B := ⟨_, rfl⟩
  rw [hB27] at hm16 ⊢
  clear hB27
  refine wp_region_lit ?_
  (refine wpList_load_view (t := 4) x A1 A2 c1 c2 w.heap.size ?hg ?hw ?hx ?_; (case hg => exact hv16.box); (case hw => rfl); (case hx => rfl))
  go_upto_region 15 with (first | (go_at_call 24; refine (r17_Table x A1 A2 c1 c2 A3 c3 l _ hv16.rep (hs.below hB16)).mono ?_; rintro e W17 ⟨N1, n1, N2, n2, rfl, hr17, hb17, -, -⟩) | (refine wpList_store_row rfl 25 (.tmp 28) (.tmp 130) rfl W17.heap.size ((tabV x l).cells N1 n1 N2 n2) rfl rfl 25 (View.zero.cells none 0 none 0) (VBox.new W17 View.zero none 0 none 0) (view_size _ _ _ _ _) rfl (View.oneCell _ _ _ _ _) ?_))
  refine name_world fun W18 hW18 => ?_
  obtain ⟨hn, hb18⟩ := has_new (w := w) hr17 hW18
  have hg := (hg16.below hb17).below hb18
  have hk := (hk16.below hb17).below hb18
  have hm := (hm16.below hb17).below hb18
  have hB := (hB16.trans (hb17.mono hB16.size)).trans (hb18.mono (hB16.trans (hb17.mono hB16.size)).size)
  clear hW18 hv16 hg16 hk16 hm16 hB16 hb17 hb18 hr17
  obtain ⟨B28, hB28⟩ : ∃ B, W17.heap.size = B := ⟨_, rfl⟩
  rw [hB28] at hn ⊢
  clear hB28
  have s1 : (walkN x i == walkN x i) = true := by simp
  have s2 : (walkK x i == walkK x i) = true := by simp
  have s3 : (walkM x i == walkM x i) = true := by simp
  have s4 : (tabE x l == tabE x l) = true := by simp
  go_wp2_with (first | (refine wpList_load_view (t := 17) (walkV x i) G1 G2 g1 g2 B17 ?hg ?hw ?hx ?_; (case hg => exact hg.box); (case hw => rfl); (case hx => rfl)) | (refine wpList_load_view (t := 19) (walkV x i) K1 K2 k1 k2 B19 ?hg ?hw ?hx ?_; (case hg => exact hk.box); (case hw => rfl); (case hx => rfl)) | (refine wpList_load_view (t := 27) (tabV x l) M1 M2 m1 m2 B27 ?hg ?hw ?hx ?_; (case hg => exact hm.box); (case hw => rfl); (case hx => rfl)) | (refine wpList_load_view (t := 28) (tabV x l) N1 N2 n1 n2 B28 ?hg ?hw ?hx ?_; (case hg => exact hn.box); (case hw => rfl); (case hx => rfl)) | (go_at_call_of 20 G1; refine (r13_Same (walkV x i) (walkV x i) G1 G2 K1 K2 g1 g2 k1 k2 _ hg.rep hk.rep).mono ?_; rintro e V1 ⟨he, hb⟩; rw [same_refl] at he; subst he; have hm := hm.below hb; have hn := hn.below hb; have hB := hB.trans (hb.mono hB.size)) | (go_at_call_of 20 M1; refine (r13_Same (tabV x l) (tabV x l) M1 M2 N1 N2 m1 m2 n1 n2 _ hm.rep hn.rep).mono ?_; rintro e V2 ⟨he, hb⟩; rw [same_refl] at he; subst he; have hB := hB.trans (hb.mono hB.size)) | (go_at_call 13; refine (law17_wakes _ (hst.below hB)).mono ?_; rintro e W99 ⟨rfl, hb99⟩; have hB99 := hB.trans (hb99.mono hB.size)))
  go_ret
  exact ⟨rfl, hB99⟩

set_option maxRecDepth 100000 in
set_option maxHeartbeats 1000000 in
theorem law_FingerTells_great (x : View) (A1 A2 : Option Addr) (c1 c2 : Nat) (i n : Int) (A3 : Option Addr) (c3 : Nat) (l : List Int) (w : World) (hst : Steps w) (hg : greatV x = true) :
    Calls Tryd.prog 3 #[x.v A1 c1 A2 c2, .int .i64 i, .int .i64 n, .slice A3 l.length c3] w fun e w' => e = .returned (.bool true) ∧ Below w.heap.size w w' := by
  unfold View.v
  go_enter Tryd.func3, Tryd.ntmps3
  go_upto_region 1 with (fail)
  refine name_world fun W0 hW0 => ?_
  have hT := one_start hW0
  clear hW0
  have hv0 := hT
  have hB0 := hT.b
  clear hT
  go_wp2_with (first | (refine wpList_load_view (t := 4) x A1 A2 c1 c2 w.heap.size ?hg ?hw ?hx ?_; (case hg => exact hv0.box); (case hw => rfl); (case hx => rfl)) | (go_at_call 12; refine (r15_Great x A1 A2 c1 c2 _).mono ?_; rintro e W1 ⟨he, hb1⟩; rw [hg] at he; subst he; have hv1 := hv0.below hb1; have hB1 := hB0.trans (hb1.mono hB0.size)) | (go_at_call 13; refine (law17_wakes _ (hst.below hB1)).mono ?_; rintro e W9 ⟨rfl, hb9⟩; have hB9 := hB1.trans (hb9.mono hB1.size)))
  go_ret
  exact ⟨rfl, hB9⟩

set_option maxRecDepth 100000 in
set_option maxHeartbeats 1000000 in
theorem law_FingerTells_long (x : View) (A1 A2 : Option Addr) (c1 c2 : Nat) (i n : Int) (A3 : Option Addr) (c3 : Nat) (l : List Int) (w : World) (hst : Steps w) (h : RepV w x A1 c1 A2 c2) (hg : greatV x = false) (hl : decide (60 < (l.length : Int)) = true) :
    Calls Tryd.prog 3 #[x.v A1 c1 A2 c2, .int .i64 i, .int .i64 n, .slice A3 l.length c3] w fun e w' => e = .returned (.bool true) ∧ Below w.heap.size w w' := by
  unfold View.v
  go_enter Tryd.func3, Tryd.ntmps3
  go_upto_region 1 with (fail)
  refine name_world fun W0 hW0 => ?_
  have hT := one_start hW0
  clear hW0
  have hv0 : Has w W0 w.heap.size x A1 c1 A2 c2 := ⟨hT.box, h.below hT.b⟩
  have hB0 := hT.b
  clear hT
  go_wp2_with (first | (refine wpList_load_view (t := 4) x A1 A2 c1 c2 w.heap.size ?hg ?hw ?hx ?_; (case hg => exact hv0.box); (case hw => rfl); (case hx => rfl)) | (go_at_call 12; refine (r15_Great x A1 A2 c1 c2 _).mono ?_; rintro e W1 ⟨he, hb1⟩; rw [hg] at he; subst he; have hv1 := hv0.below hb1; have hB1 := hB0.trans (hb1.mono hB0.size)) | (go_at_call 13; refine (law17_wakes _ (hst.below hB1)).mono ?_; rintro e W9 ⟨rfl, hb9⟩; have hB9 := hB1.trans (hb9.mono hB1.size)))
  go_ret
  exact ⟨rfl, hB9⟩

theorem law_FingerTells (x : View) (A1 A2 : Option Addr) (c1 c2 : Nat) (i n : Int) (A3 : Option Addr) (c3 : Nat) (l : List Int) (w : World) (hst : Steps w) (h : greatV x = false → RepV w x A1 c1 A2 c2) (hs : decide (60 < (l.length : Int)) = false → Sl w A3 c3 l) :
    Calls Tryd.prog 3 #[x.v A1 c1 A2 c2, .int .i64 i, .int .i64 n, .slice A3 l.length c3] w fun e w' => e = .returned (.bool true) ∧ Below w.heap.size w w' := by
  cases hg : greatV x with
  | true => exact law_FingerTells_great x A1 A2 c1 c2 i n A3 c3 l w hst hg
  | false =>
    cases hl : decide (60 < (l.length : Int)) with
    | true => exact law_FingerTells_long x A1 A2 c1 c2 i n A3 c3 l w hst (h hg) hg hl
    | false => exact law_FingerTells_main x A1 A2 c1 c2 i n A3 c3 l w hst (h hg) (hs hl) hg hl
end Go.Proofs.YtbjgfcempfpfcaaDoor
