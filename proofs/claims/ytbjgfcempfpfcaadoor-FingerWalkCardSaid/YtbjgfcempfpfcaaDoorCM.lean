/- The law FingerOnce. -/
import Derived.Test.YtbjgfcempfpfcaaDoorCJ
namespace Go.Proofs.YtbjgfcempfpfcaaDoor
open Go.RowKit Go.Shelf

theorem Has.drewN {w W : World} {B : Nat} {x : View} {A1 A2 : Option Addr} {c1 c2 : Nat} (h : Has w W B x A1 c1 A2 c2) (n : Nat) : Has w (W.drewN n) B x A1 c1 A2 c2 := ⟨h.box, h.rep.base.drewN n, h.rep.list.drewN n⟩
theorem pow_small {k : Nat} (h : k < 16) : (0 : Int) < 2 ^ k ∧ (2 : Int) ^ k ≤ 32768 := by
  have : k = 0 ∨ k = 1 ∨ k = 2 ∨ k = 3 ∨ k = 4 ∨ k = 5 ∨ k = 6 ∨ k = 7 ∨ k = 8 ∨ k = 9 ∨ k = 10 ∨ k = 11 ∨ k = 12 ∨ k = 13 ∨ k = 14 ∨ k = 15 := by omega
  rcases this with rfl | rfl | rfl | rfl | rfl | rfl | rfl | rfl | rfl | rfl | rfl | rfl | rfl | rfl | rfl | rfl <;> decide
theorem far_start {a : Int} {k : Nat} (h : k < 16) : far a (startF a k) = 2 ^ k := by
  have hp := pow_small h
  rw [startF_mid h, far_place_eq]
  generalize (2 : Int) ^ k = p at hp
  unfold far; omega
theorem once_iff {x : View} (hr : rightV x = true) {k : Nat} (hk : k < 16) : onceF x k = decide (far x.id (startF x.id k) ≤ far x.id (firstV x)) := by
  have hf := first_place hr
  have hid := right_id hr
  have hs := far_start (a := x.id) hk
  have hp := pow_small hk
  have hkn : knownF x (k : Int) = true := by simp [knownF, hr]; omega
  rw [onceF, hkn, Bool.true_and, Bool.eq_iff_iff, upTo_iff, decide_eq_true_eq, hs]
  obtain ⟨h1, h2⟩ := hf
  rw [isPl_iff] at h1
  rw [bne_iff_ne] at h2
  have h3 : (startF x.id k - x.id) % 65536 = 2 ^ k := hs
  generalize (2 : Int) ^ k = p at hp h3 ⊢
  generalize startF x.id k = s at h3 ⊢
  unfold far
  omega
theorem pow_mono {j k : Nat} (h : j < k) (hk : k < 16) : (2 : Int) ^ j ≤ 2 ^ k := by
  obtain ⟨d, rfl⟩ : ∃ d, k = j + d := ⟨k - j, by omega⟩
  rw [Int.pow_add]
  have h1 := two_pow_pos d
  have h2 := two_pow_pos j
  calc (2 : Int) ^ j = 2 ^ j * 1 := by omega
    _ ≤ 2 ^ j * 2 ^ d := Int.mul_le_mul_of_nonneg_left (by omega) (by omega)
theorem once_down {x : View} (hr : rightV x = true) {j k : Nat} (hk : k < 16) (hj : j < k) (h : onceF x k = true) : onceF x j = true := by
  rw [once_iff hr hk, decide_eq_true_eq, far_start hk] at h
  rw [once_iff hr (by omega), decide_eq_true_eq, far_start (by omega)]
  have := pow_mono hj hk
  omega

set_option maxRecDepth 100000 in
set_option maxHeartbeats 4000000 in
theorem law_FingerOnce_main (x : View) (A1 A2 : Option Addr) (c1 c2 : Nat) (k : Nat) (w : World) (hst : Steps w) (h : RepV w x A1 c1 A2 c2) (hg : greatV x = false) (hr : rightV x = true) (hk : k < 16) :
    Calls Tryd.prog 5 #[x.v A1 c1 A2 c2, .int .i64 (k : Int)] w fun e w' => e = .returned (.bool true) ∧ Below w.heap.size w w' := by
  have ek : knownF x (k : Int) = true := by simp [knownF, hr]; omega
  have eS : startP x (k : Int) = startF x.id k := by simp [startP, ek]
  have eE : startE x (k : Int) = 0 := by simp [startE, ek]
  have z1 : decide ((k : Int) < 0) = false := decide_eq_false (by omega)
  have z2 : decide (16 ≤ (k : Int)) = false := decide_eq_false (by omega)
  have hs0 : startI x (k : Int) = k := by simp [startI, ek]
  have HS := Lib.hid (And.intro hs0 (show walkE x (k : Int) = walkJ x k by rw [walkE, hs0]))
  clear hs0 ek
  unfold View.v
  go_enter Tryd.func5, Tryd.ntmps5
  go_upto_region 1 with (fail)
  refine name_world fun W0 hW0 => ?_
  have hT := one_start hW0
  clear hW0
  have hv0 : Has w W0 w.heap.size x A1 c1 A2 c2 := ⟨hT.box, h.below hT.b⟩
  have hB0 := hT.b
  clear hT
  go_upto_region 3 with (first | (refine wpList_load_view (t := 2) x A1 A2 c1 c2 w.heap.size ?hg ?hw ?hx ?_; (case hg => exact hv0.box); (case hw => rfl); (case hx => rfl)) | (go_at_call 12; refine (r15_Great x A1 A2 c1 c2 _).mono ?_; rintro e W1 ⟨he, hb1⟩; rw [hg] at he; subst he; have hv1 := hv0.below hb1; have hB1 := hB0.trans (hb1.mono hB0.size)) | (refine wpList_load_view (t := 2) x A1 A2 c1 c2 w.heap.size ?hg ?hw ?hx ?_; (case hg => exact hv1.box); (case hw => rfl); (case hx => rfl)) | (go_at_call 25; refine (r13_Right x A1 A2 c1 c2 _ hv1.rep.base hv1.rep.list).mono ?_; rintro e W2 ⟨he, hb2⟩; rw [hr] at he; subst he; have hv2 := hv1.below hb2; have hB2 := hB1.trans (hb2.mono hB1.size)))
  clear hv0 hB0 hb1 hv1 hB1 hb2
  cases e3 : onceF x (k : Int) with
  | true =>
    have eP : onceP x (k : Int) = firstV x := by simp [onceP, e3]
    have hle := (once_iff hr hk).symm.trans e3
    go_upto_region 4 with (first | (refine wpList_load_view (t := 2) x A1 A2 c1 c2 w.heap.size ?hg ?hw ?hx ?_; (case hg => exact hv2.box); (case hw => rfl); (case hx => rfl)) | (go_at_call 28; refine (r13_First x A1 A2 c1 c2 _ hv2.rep).mono ?_; rintro e W3 ⟨rfl, hb3⟩; have hv3 := hv2.below hb3; have hB3 := hB2.trans (hb3.mono hB2.size)))
    refine wp_region_lit ?_
    (refine wpList_load_view (t := 2) x A1 A2 c1 c2 w.heap.size ?hg ?hw ?hx ?_; (case hg => exact hv3.box); (case hw => rfl); (case hx => rfl))
    go_upto_region 5 with (go_at_call 16; refine (finger_Once x A1 A2 c1 c2 _ _ hv3.rep (hst.below hB3)).mono ?_; rintro e W4 ⟨he, hb4⟩; rw [eP, e3] at he; subst he; have hv4 := hv3.below hb4; have hB4 := hB3.trans (hb4.mono hB3.size))
    refine wp_region_lit ?_
    (refine wpList_load_view (t := 2) x A1 A2 c1 c2 w.heap.size ?hg ?hw ?hx ?_; (case hg => exact hv4.box); (case hw => rfl); (case hx => rfl))
    go_upto_region 6 with (go_at_call 14; refine (finger_Start x A1 A2 c1 c2 _ _ hv4.rep (hst.below hB4)).mono ?_; rintro e W5 ⟨he, hb5⟩; rw [eS, eE] at he; subst he; have hv5 := hv4.below hb5; have hB5 := hB4.trans (hb5.mono hB4.size))
    have p0 := hv5.box.cells.1
    have HV5 := Lib.hid (And.intro hv5 hB5)
    clear hv2 hB2 hb3 hv3 hB3 hb4 hv4 hB4 hb5 hv5 hB5
    go_quiet ((go_at_call 30; exact qs (r03_Far _ _ _) rfl))
    go_upto_region 8 with (fail)
    refine name_world fun W6 hW6 => ?_
    have HV6 := Lib.hid (hW6 ▸ And.intro (HV5.out.1.drewN nq) (Below.drewN HV5.out.2 nq) : Has w W6 w.heap.size x A1 c1 A2 c2 ∧ Below w.heap.size w W6)
    clear hW6 HV5 p0
    go_wp2
    go_loopw [10] (fun t10 wr => ∃ j : Nat, j ≤ k ∧ t10 = .int .i64 j ∧ Hid (Has w wr w.heap.size x A1 c1 A2 c2 ∧ Below w.heap.size w wr)) (fun t10 _ => 16 - (intOf t10).toNat)
    case atStart => exact ⟨0, Nat.zero_le _, rfl, HV6⟩
    case round =>
      clear HV6
      obtain ⟨j, hjk, rfl, hV⟩ := hrel
      by_cases hlt : j < k
      · have eF2 := once_down hr hk hlt e3
        have eP2 : onceP x (j : Int) = firstV x := by simp [onceP, eF2]
        have hvj := hV.out.1
        go_wp2_with (first | (refine wpList_load_view (t := 2) x A1 A2 c1 c2 w.heap.size ?hg ?hw ?hx ?_; (case hg => exact hvj.box); (case hw => rfl); (case hx => rfl)) | (go_at_call 16; refine (finger_Once x A1 A2 c1 c2 _ _ hV.out.1.rep (hst.below hV.out.2)).mono ?_; rintro e W7 ⟨he, hb7⟩; rw [eP2, eF2] at he; subst he))
        go_roundw
        case rel => exact ⟨j + 1, by omega, by go_num, Lib.hid ⟨hV.out.1.below hb7, hV.out.2.trans (hb7.mono hV.out.2.size)⟩⟩
        case measure => simp [intOf]; omega
      · obtain rfl : k = j := by omega
        go_upto_region 14 with (fail)
        have hv := hV.out.1
        have hB := hV.out.2
        clear hV
        refine wp_region_lit ?_
        (refine wpList_load_view (t := 2) x A1 A2 c1 c2 w.heap.size ?hg ?hw ?hx ?_; (case hg => exact hv.box); (case hw => rfl); (case hx => rfl))
        by_cases hj : walkJ x k < 16
        · have HW := Lib.hid (show walkV x (k : Int) = (setR x k (walkJ x k)) ∧ walkN x (k : Int) = walkJ x k ∧ walkK x (k : Int) = startF x.id (walkJ x k) ∧ walkM x (k : Int) = true by
            have := walk_yes hr (i := (k : Int)) (by rw [HS.out.2]; exact hj)
            rwa [HS.out.1, HS.out.2] at this)
          go_upto_region 15 with (first | (go_at_call 21; refine (finger_Walk x A1 A2 c1 c2 _ _ hv.rep (hst.below hB)).mono ?_; rintro e W8 ⟨E1, e1, E2, e2, he, hr8, hb8, -, -⟩; rw [HW.out.1] at he hr8; rw [HW.out.2.1, HW.out.2.2.1, HW.out.2.2.2] at he; subst he) | (refine wpList_store_row rfl 25 (.tmp 13) (.tmp 105) rfl W8.heap.size ((setR x k (walkJ x k)).cells E1 e1 E2 e2) rfl rfl 25 (View.zero.cells none 0 none 0) (VBox.new W8 View.zero none 0 none 0) (view_size _ _ _ _ _) rfl (View.oneCell _ _ _ _ _) ?_))
          refine name_world fun W9 hW9 => ?_
          obtain ⟨hw9, hb9⟩ := has_new (w := w) hr8 hW9
          have hv9 := (hv.below hb8).below hb9
          have hB9 := (hB.trans (hb8.mono hB.size)).trans (hb9.mono (hB.trans (hb8.mono hB.size)).size)
          clear hW9 hv hB hb8 hb9 hr8
          have eF := walkJ_end x k
          have eP : onceP x (walkJ x k) = 0 := by simp [onceP, eF]
          have hst2 : (startF x.id (walkJ x k : Int) == startF x.id (walkJ x k : Int)) = true := by simp
          have hge := walkJ_ge x k
          go_upto_region 16 with (fail)
          refine wp_region_lit ?_
          (refine wpList_load_view (t := 2) x A1 A2 c1 c2 w.heap.size ?hg ?hw ?hx ?_; (case hg => exact hv9.box); (case hw => rfl); (case hx => rfl))
          go_upto_region 17 with (go_at_call 16; refine (finger_Once x A1 A2 c1 c2 _ _ hv9.rep (hst.below hB9)).mono ?_; rintro e W10 ⟨he, hb10⟩; rw [eP, eF] at he; subst he; have hv10 := hv9.below hb10; have hB10 := hB9.trans (hb10.mono hB9.size))
          have p0 := hv10.box.cells.1
          go_wp2_with (first | (go_at_call 29; refine (r03_Start _ _ _).mono ?_; rintro e w' ⟨rfl, rfl⟩) | (go_at_call 13; refine (law17_wakes _ (hst.below hB10)).mono ?_; rintro e W11 ⟨rfl, hb11⟩; have hB11 := hB10.trans (hb11.mono hB10.size)))
          go_ret
          exact ⟨rfl, hB11⟩
        · have hj16 : walkJ x k = 16 := by have := walkJ_le (x := x) (i := k) (by omega); omega
          have HJ := Lib.hid hj16
          clear hj16
          have HW := Lib.hid (show walkV x (k : Int) = (setR x k (walkJ x k)) ∧ walkN x (k : Int) = 0 ∧ walkK x (k : Int) = 0 ∧ walkM x (k : Int) = false by
            have := walk_no hr (i := (k : Int)) (by rw [HS.out.2]; exact hj)
            rwa [HS.out.1, HS.out.2] at this)
          go_upto_region 15 with (first | (go_at_call 21; refine (finger_Walk x A1 A2 c1 c2 _ _ hv.rep (hst.below hB)).mono ?_; rintro e W8 ⟨E1, e1, E2, e2, he, hr8, hb8, -, -⟩; rw [HW.out.1] at he hr8; rw [HW.out.2.1, HW.out.2.2.1, HW.out.2.2.2] at he; subst he) | (refine wpList_store_row rfl 25 (.tmp 13) (.tmp 105) rfl W8.heap.size ((setR x k (walkJ x k)).cells E1 e1 E2 e2) rfl rfl 25 (View.zero.cells none 0 none 0) (VBox.new W8 View.zero none 0 none 0) (view_size _ _ _ _ _) rfl (View.oneCell _ _ _ _ _) ?_))
          refine name_world fun W9 hW9 => ?_
          obtain ⟨hw9, hb9⟩ := has_new (w := w) hr8 hW9
          have hB9 := (hB.trans (hb8.mono hB.size)).trans (hb9.mono (hB.trans (hb8.mono hB.size)).size)
          clear hW9 hv hB hb8 hb9 hr8
          obtain ⟨B13, hB13⟩ : ∃ B, W8.heap.size = B := ⟨_, rfl⟩
          rw [hB13] at hw9 ⊢
          clear hB13
          have p15 : W9.cell? ⟨B13, 19, none⟩ = some (.int .i64 (firstV x)) := by
            have h1 := hw9.box.finger (k := 15) (by omega)
            have h2 : (setR x k (walkJ x k)).f 15 = firstV x := by show (if k ≤ 15 ∧ 15 < walkJ x k then _ else _) = _; rw [if_pos (by have := HJ.out; omega)]
            rw [h2] at h1; exact h1
          clear hw9
          go_wp2_with (go_at_call 13; refine (law17_wakes _ (hst.below hB9)).mono ?_; rintro e W11 ⟨rfl, hb11⟩; have hB11 := hB9.trans (hb11.mono hB9.size))
          go_ret
          exact ⟨rfl, hB11⟩
  | false =>
    have eP : onceP x (k : Int) = 0 := by simp [onceP, e3]
    have hle := (once_iff hr hk).symm.trans e3
    go_upto_region 4 with (first | (refine wpList_load_view (t := 2) x A1 A2 c1 c2 w.heap.size ?hg ?hw ?hx ?_; (case hg => exact hv2.box); (case hw => rfl); (case hx => rfl)) | (go_at_call 28; refine (r13_First x A1 A2 c1 c2 _ hv2.rep).mono ?_; rintro e W3 ⟨rfl, hb3⟩; have hv3 := hv2.below hb3; have hB3 := hB2.trans (hb3.mono hB2.size)))
    refine wp_region_lit ?_
    (refine wpList_load_view (t := 2) x A1 A2 c1 c2 w.heap.size ?hg ?hw ?hx ?_; (case hg => exact hv3.box); (case hw => rfl); (case hx => rfl))
    go_upto_region 5 with (go_at_call 16; refine (finger_Once x A1 A2 c1 c2 _ _ hv3.rep (hst.below hB3)).mono ?_; rintro e W4 ⟨he, hb4⟩; rw [eP, e3] at he; subst he; have hv4 := hv3.below hb4; have hB4 := hB3.trans (hb4.mono hB3.size))
    refine wp_region_lit ?_
    (refine wpList_load_view (t := 2) x A1 A2 c1 c2 w.heap.size ?hg ?hw ?hx ?_; (case hg => exact hv4.box); (case hw => rfl); (case hx => rfl))
    go_upto_region 6 with (go_at_call 14; refine (finger_Start x A1 A2 c1 c2 _ _ hv4.rep (hst.below hB4)).mono ?_; rintro e W5 ⟨he, hb5⟩; rw [eS, eE] at he; subst he; have hv5 := hv4.below hb5; have hB5 := hB4.trans (hb5.mono hB4.size))
    have p0 := hv5.box.cells.1
    have HV5 := Lib.hid (And.intro hv5 hB5)
    clear hv2 hB2 hb3 hv3 hB3 hb4 hv4 hB4 hb5 hv5 hB5
    go_quiet ((go_at_call 30; exact qs (r03_Far _ _ _) rfl))
    go_upto_region 8 with (fail)
    refine name_world fun W6 hW6 => ?_
    have HV6 := Lib.hid (hW6 ▸ And.intro (HV5.out.1.drewN nq) (Below.drewN HV5.out.2 nq) : Has w W6 w.heap.size x A1 c1 A2 c2 ∧ Below w.heap.size w W6)
    clear hW6 HV5 p0
    go_wp2
    go_loopw [10] (fun t10 wr => t10 = .int .i64 0 ∧ Hid (Has w wr w.heap.size x A1 c1 A2 c2 ∧ Below w.heap.size w wr)) (fun t10 _ => 0)
    case atStart => exact ⟨rfl, HV6⟩
    case round =>
      clear HV6
      obtain ⟨rfl, hV⟩ := hrel
      go_upto_region 14 with (fail)
      all_goals
        have hv := hV.out.1
        have hB := hV.out.2
        clear hV
        refine wp_region_lit ?_
        (refine wpList_load_view (t := 2) x A1 A2 c1 c2 w.heap.size ?hg ?hw ?hx ?_; (case hg => exact hv.box); (case hw => rfl); (case hx => rfl))
        by_cases hj : walkJ x k < 16
        · have HW := Lib.hid (show walkV x (k : Int) = (setR x k (walkJ x k)) ∧ walkN x (k : Int) = walkJ x k ∧ walkK x (k : Int) = startF x.id (walkJ x k) ∧ walkM x (k : Int) = true by
            have := walk_yes hr (i := (k : Int)) (by rw [HS.out.2]; exact hj)
            rwa [HS.out.1, HS.out.2] at this)
          go_upto_region 15 with (first | (go_at_call 21; refine (finger_Walk x A1 A2 c1 c2 _ _ hv.rep (hst.below hB)).mono ?_; rintro e W8 ⟨E1, e1, E2, e2, he, hr8, hb8, -, -⟩; rw [HW.out.1] at he hr8; rw [HW.out.2.1, HW.out.2.2.1, HW.out.2.2.2] at he; subst he) | (refine wpList_store_row rfl 25 (.tmp 13) (.tmp 105) rfl W8.heap.size ((setR x k (walkJ x k)).cells E1 e1 E2 e2) rfl rfl 25 (View.zero.cells none 0 none 0) (VBox.new W8 View.zero none 0 none 0) (view_size _ _ _ _ _) rfl (View.oneCell _ _ _ _ _) ?_))
          refine name_world fun W9 hW9 => ?_
          obtain ⟨hw9, hb9⟩ := has_new (w := w) hr8 hW9
          have hv9 := (hv.below hb8).below hb9
          have hB9 := (hB.trans (hb8.mono hB.size)).trans (hb9.mono (hB.trans (hb8.mono hB.size)).size)
          clear hW9 hv hB hb8 hb9 hr8
          have eF := walkJ_end x k
          have eP : onceP x (walkJ x k) = 0 := by simp [onceP, eF]
          have hst2 : (startF x.id (walkJ x k : Int) == startF x.id (walkJ x k : Int)) = true := by simp
          have hge := walkJ_ge x k
          go_upto_region 16 with (fail)
          refine wp_region_lit ?_
          (refine wpList_load_view (t := 2) x A1 A2 c1 c2 w.heap.size ?hg ?hw ?hx ?_; (case hg => exact hv9.box); (case hw => rfl); (case hx => rfl))
          go_upto_region 17 with (go_at_call 16; refine (finger_Once x A1 A2 c1 c2 _ _ hv9.rep (hst.below hB9)).mono ?_; rintro e W10 ⟨he, hb10⟩; rw [eP, eF] at he; subst he; have hv10 := hv9.below hb10; have hB10 := hB9.trans (hb10.mono hB9.size))
          have p0 := hv10.box.cells.1
          go_wp2_with (first | (go_at_call 29; refine (r03_Start _ _ _).mono ?_; rintro e w' ⟨rfl, rfl⟩) | (go_at_call 13; refine (law17_wakes _ (hst.below hB10)).mono ?_; rintro e W11 ⟨rfl, hb11⟩; have hB11 := hB10.trans (hb11.mono hB10.size)))
          go_ret
          exact ⟨rfl, hB11⟩
        · have hj16 : walkJ x k = 16 := by have := walkJ_le (x := x) (i := k) (by omega); omega
          have HJ := Lib.hid hj16
          clear hj16
          have HW := Lib.hid (show walkV x (k : Int) = (setR x k (walkJ x k)) ∧ walkN x (k : Int) = 0 ∧ walkK x (k : Int) = 0 ∧ walkM x (k : Int) = false by
            have := walk_no hr (i := (k : Int)) (by rw [HS.out.2]; exact hj)
            rwa [HS.out.1, HS.out.2] at this)
          go_upto_region 15 with (first | (go_at_call 21; refine (finger_Walk x A1 A2 c1 c2 _ _ hv.rep (hst.below hB)).mono ?_; rintro e W8 ⟨E1, e1, E2, e2, he, hr8, hb8, -, -⟩; rw [HW.out.1] at he hr8; rw [HW.out.2.1, HW.out.2.2.1, HW.out.2.2.2] at he; subst he) | (refine wpList_store_row rfl 25 (.tmp 13) (.tmp 105) rfl W8.heap.size ((setR x k (walkJ x k)).cells E1 e1 E2 e2) rfl rfl 25 (View.zero.cells none 0 none 0) (VBox.new W8 View.zero none 0 none 0) (view_size _ _ _ _ _) rfl (View.oneCell _ _ _ _ _) ?_))
          refine name_world fun W9 hW9 => ?_
          obtain ⟨hw9, hb9⟩ := has_new (w := w) hr8 hW9
          have hB9 := (hB.trans (hb8.mono hB.size)).trans (hb9.mono (hB.trans (hb8.mono hB.size)).size)
          clear hW9 hv hB hb8 hb9 hr8
          obtain ⟨B13, hB13⟩ : ∃ B, W8.heap.size = B := ⟨_, rfl⟩
          rw [hB13] at hw9 ⊢
          clear hB13
          have p15 : W9.cell? ⟨B13, 19, none⟩ = some (.int .i64 (firstV x)) := by
            have h1 := hw9.box.finger (k := 15) (by omega)
            have h2 : (setR x k (walkJ x k)).f 15 = firstV x := by show (if k ≤ 15 ∧ 15 < walkJ x k then _ else _) = _; rw [if_pos (by have := HJ.out; omega)]
            rw [h2] at h1; exact h1
          clear hw9
          go_wp2_with (go_at_call 13; refine (law17_wakes _ (hst.below hB9)).mono ?_; rintro e W11 ⟨rfl, hb11⟩; have hB11 := hB9.trans (hb11.mono hB9.size))
          go_ret
          exact ⟨rfl, hB11⟩

set_option maxRecDepth 100000 in
set_option maxHeartbeats 1000000 in
theorem law_FingerOnce_great (x : View) (A1 A2 : Option Addr) (c1 c2 : Nat) (i : Int) (w : World) (hst : Steps w) (hg : greatV x = true) :
    Calls Tryd.prog 5 #[x.v A1 c1 A2 c2, .int .i64 i] w fun e w' => e = .returned (.bool true) ∧ Below w.heap.size w w' := by
  unfold View.v
  go_enter Tryd.func5, Tryd.ntmps5
  go_upto_region 1 with (fail)
  refine name_world fun W0 hW0 => ?_
  have hT := one_start hW0
  clear hW0
  have hv0 := hT
  have hB0 := hT.b
  clear hT
  go_wp2_with (first | (refine wpList_load_view (t := 2) x A1 A2 c1 c2 w.heap.size ?hg ?hw ?hx ?_; (case hg => exact hv0.box); (case hw => rfl); (case hx => rfl)) | (go_at_call 12; refine (r15_Great x A1 A2 c1 c2 _).mono ?_; rintro e W1 ⟨he, hb1⟩; rw [hg] at he; subst he; have hv1 := hv0.below hb1; have hB1 := hB0.trans (hb1.mono hB0.size)) | (go_at_call 13; refine (law17_wakes _ (hst.below hB1)).mono ?_; rintro e W9 ⟨rfl, hb9⟩; have hB9 := hB1.trans (hb9.mono hB1.size)))
  go_ret
  exact ⟨rfl, hB9⟩

set_option maxRecDepth 100000 in
set_option maxHeartbeats 1000000 in
theorem law_FingerOnce_bad (x : View) (A1 A2 : Option Addr) (c1 c2 : Nat) (i : Int) (w : World) (hst : Steps w) (h : RepV w x A1 c1 A2 c2) (hg : greatV x = false) (hr : rightV x = false) :
    Calls Tryd.prog 5 #[x.v A1 c1 A2 c2, .int .i64 i] w fun e w' => e = .returned (.bool true) ∧ Below w.heap.size w w' := by
  unfold View.v
  go_enter Tryd.func5, Tryd.ntmps5
  go_upto_region 1 with (fail)
  refine name_world fun W0 hW0 => ?_
  have hT := one_start hW0
  clear hW0
  have hv0 : Has w W0 w.heap.size x A1 c1 A2 c2 := ⟨hT.box, h.below hT.b⟩
  have hB0 := hT.b
  clear hT
  go_wp2_with (first | (refine wpList_load_view (t := 2) x A1 A2 c1 c2 w.heap.size ?hg ?hw ?hx ?_; (case hg => exact hv0.box); (case hw => rfl); (case hx => rfl)) | (go_at_call 12; refine (r15_Great x A1 A2 c1 c2 _).mono ?_; rintro e W1 ⟨he, hb1⟩; rw [hg] at he; subst he; have hv1 := hv0.below hb1; have hB1 := hB0.trans (hb1.mono hB0.size)) | (refine wpList_load_view (t := 2) x A1 A2 c1 c2 w.heap.size ?hg ?hw ?hx ?_; (case hg => exact hv1.box); (case hw => rfl); (case hx => rfl)) | (go_at_call 25; refine (r13_Right x A1 A2 c1 c2 _ hv1.rep.base hv1.rep.list).mono ?_; rintro e W2 ⟨he, hb2⟩; rw [hr] at he; subst he; have hv2 := hv1.below hb2; have hB2 := hB1.trans (hb2.mono hB1.size)) | (go_at_call 13; refine (law17_wakes _ (hst.below hB2)).mono ?_; rintro e W9 ⟨rfl, hb9⟩; have hB9 := hB2.trans (hb9.mono hB2.size)))
  go_ret
  exact ⟨rfl, hB9⟩

set_option maxRecDepth 100000 in
set_option maxHeartbeats 1000000 in
theorem law_FingerOnce_low (x : View) (A1 A2 : Option Addr) (c1 c2 : Nat) (i : Int) (w : World) (hst : Steps w) (h : RepV w x A1 c1 A2 c2) (hg : greatV x = false) (hr : rightV x = true) (e1 : decide (i < 0) = true) :
    Calls Tryd.prog 5 #[x.v A1 c1 A2 c2, .int .i64 i] w fun e w' => e = .returned (.bool true) ∧ Below w.heap.size w w' := by
  unfold View.v
  go_enter Tryd.func5, Tryd.ntmps5
  go_upto_region 1 with (fail)
  refine name_world fun W0 hW0 => ?_
  have hT := one_start hW0
  clear hW0
  have hv0 : Has w W0 w.heap.size x A1 c1 A2 c2 := ⟨hT.box, h.below hT.b⟩
  have hB0 := hT.b
  clear hT
  go_wp2_with (first | (refine wpList_load_view (t := 2) x A1 A2 c1 c2 w.heap.size ?hg ?hw ?hx ?_; (case hg => exact hv0.box); (case hw => rfl); (case hx => rfl)) | (go_at_call 12; refine (r15_Great x A1 A2 c1 c2 _).mono ?_; rintro e W1 ⟨he, hb1⟩; rw [hg] at he; subst he; have hv1 := hv0.below hb1; have hB1 := hB0.trans (hb1.mono hB0.size)) | (refine wpList_load_view (t := 2) x A1 A2 c1 c2 w.heap.size ?hg ?hw ?hx ?_; (case hg => exact hv1.box); (case hw => rfl); (case hx => rfl)) | (go_at_call 25; refine (r13_Right x A1 A2 c1 c2 _ hv1.rep.base hv1.rep.list).mono ?_; rintro e W2 ⟨he, hb2⟩; rw [hr] at he; subst he; have hv2 := hv1.below hb2; have hB2 := hB1.trans (hb2.mono hB1.size)) | (go_at_call 13; refine (law17_wakes _ (hst.below hB2)).mono ?_; rintro e W9 ⟨rfl, hb9⟩; have hB9 := hB2.trans (hb9.mono hB2.size)))
  go_ret
  exact ⟨rfl, hB9⟩

set_option maxRecDepth 100000 in
set_option maxHeartbeats 1000000 in
theorem law_FingerOnce_high (x : View) (A1 A2 : Option Addr) (c1 c2 : Nat) (i : Int) (w : World) (hst : Steps w) (h : RepV w x A1 c1 A2 c2) (hg : greatV x = false) (hr : rightV x = true) (e1 : decide (i < 0) = false) (e2 : decide (16 ≤ i) = true) :
    Calls Tryd.prog 5 #[x.v A1 c1 A2 c2, .int .i64 i] w fun e w' => e = .returned (.bool true) ∧ Below w.heap.size w w' := by
  unfold View.v
  go_enter Tryd.func5, Tryd.ntmps5
  go_upto_region 1 with (fail)
  refine name_world fun W0 hW0 => ?_
  have hT := one_start hW0
  clear hW0
  have hv0 : Has w W0 w.heap.size x A1 c1 A2 c2 := ⟨hT.box, h.below hT.b⟩
  have hB0 := hT.b
  clear hT
  go_wp2_with (first | (refine wpList_load_view (t := 2) x A1 A2 c1 c2 w.heap.size ?hg ?hw ?hx ?_; (case hg => exact hv0.box); (case hw => rfl); (case hx => rfl)) | (go_at_call 12; refine (r15_Great x A1 A2 c1 c2 _).mono ?_; rintro e W1 ⟨he, hb1⟩; rw [hg] at he; subst he; have hv1 := hv0.below hb1; have hB1 := hB0.trans (hb1.mono hB0.size)) | (refine wpList_load_view (t := 2) x A1 A2 c1 c2 w.heap.size ?hg ?hw ?hx ?_; (case hg => exact hv1.box); (case hw => rfl); (case hx => rfl)) | (go_at_call 25; refine (r13_Right x A1 A2 c1 c2 _ hv1.rep.base hv1.rep.list).mono ?_; rintro e W2 ⟨he, hb2⟩; rw [hr] at he; subst he; have hv2 := hv1.below hb2; have hB2 := hB1.trans (hb2.mono hB1.size)) | (go_at_call 13; refine (law17_wakes _ (hst.below hB2)).mono ?_; rintro e W9 ⟨rfl, hb9⟩; have hB9 := hB2.trans (hb9.mono hB2.size)))
  go_ret
  exact ⟨rfl, hB9⟩

theorem law_FingerOnce (x : View) (A1 A2 : Option Addr) (c1 c2 : Nat) (i : Int) (w : World) (hst : Steps w) (h : greatV x = false → RepV w x A1 c1 A2 c2) :
    Calls Tryd.prog 5 #[x.v A1 c1 A2 c2, .int .i64 i] w fun e w' => e = .returned (.bool true) ∧ Below w.heap.size w w' := by
  cases hg : greatV x with
  | true => exact law_FingerOnce_great x A1 A2 c1 c2 i w hst hg
  | false =>
    cases hr : rightV x with
    | false => exact law_FingerOnce_bad x A1 A2 c1 c2 i w hst (h hg) hg hr
    | true =>
      cases e1 : decide (i < 0) with
      | true => exact law_FingerOnce_low x A1 A2 c1 c2 i w hst (h hg) hg hr e1
      | false =>
        cases e2 : decide (16 ≤ i) with
        | true => exact law_FingerOnce_high x A1 A2 c1 c2 i w hst (h hg) hg hr e1 e2
        | false =>
          obtain ⟨k, rfl⟩ : ∃ k : Nat, i = k := ⟨i.toNat, by simp at e1; omega⟩
          exact law_FingerOnce_main x A1 A2 c1 c2 k w hst (h hg) hg hr (by simp at e2; omega)
end Go.Proofs.YtbjgfcempfpfcaaDoor
