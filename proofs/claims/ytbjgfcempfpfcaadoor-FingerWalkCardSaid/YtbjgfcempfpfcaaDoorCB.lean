/- Words of the layer finger; contracts: anchors, first ones, starts, what is told at once. -/
import Derived.Test.YtbjgfcempfpfcaaDoorCA
import Derived.Test.YtbjgfcempfpfcaaDoorBH
namespace Go.Proofs.YtbjgfcempfpfcaaDoor
open Go.RowKit Go.Shelf

def anchorV (x : View) : Int := if rightV x then ownL (x.id + 1) x.base else -1
def firstV (x : View) : Int := if rightV x && decide (0 < x.list.length) then nth x.list 0 else anchorV x
def knownF (x : View) (i : Int) : Bool := decide (0 ≤ i) && (decide (i < 16) && rightV x)
def startP (x : View) (i : Int) : Int := if knownF x i then startF x.id i else 0
def startE (x : View) (i : Int) : Int := if knownF x i then 0 else 2
def onceF (x : View) (i : Int) : Bool := knownF x i && upTo x.id (startF x.id i) (firstV x)
def onceP (x : View) (i : Int) : Int := if onceF x i then firstV x else 0
def otherF (x : View) (n : Int) : Int := if n == x.id then -1 else n

theorem known_cases (x : View) (i : Int) (P : Prop)
    (c1 : decide (0 ≤ i) = false → Hid (knownF x i = false) → P)
    (c2 : decide (0 ≤ i) = true → decide (i < 16) = false → Hid (knownF x i = false) → P)
    (c3 : decide (0 ≤ i) = true → decide (i < 16) = true → Hid (knownF x i = rightV x) → P) : P := by
  cases e1 : decide (0 ≤ i)
  case false => exact c1 e1 (Lib.hid (by simp [knownF, e1]))
  case true =>
    cases e2 : decide (i < 16)
    case false => exact c2 e1 e2 (Lib.hid (by simp [knownF, e1, e2]))
    case true => exact c3 e1 e2 (Lib.hid (by simp [knownF, e1, e2]))
theorem known2_cases (x : View) (i : Int) (P : Prop)
    (c1 : rightV x = false → Hid (knownF x i = false) → P)
    (c2 : rightV x = true → decide (i < 0) = true → Hid (knownF x i = false) → P)
    (c3 : rightV x = true → decide (i < 0) = false → decide (16 ≤ i) = true → Hid (knownF x i = false) → P)
    (c4 : rightV x = true → decide (i < 0) = false → decide (16 ≤ i) = false → Hid (knownF x i = true) → P) : P := by
  cases e1 : rightV x
  case false => exact c1 e1 (Lib.hid (by simp [knownF, e1]))
  case true =>
    cases e2 : decide (i < 0)
    case true => exact c2 e1 e2 (Lib.hid (by simp at e2; simp [knownF]; omega))
    case false =>
      cases e3 : decide (16 ≤ i)
      case true => exact c3 e1 e2 e3 (Lib.hid (by simp at e3; simp [knownF]; omega))
      case false => exact c4 e1 e2 e3 (Lib.hid (by simp at e2 e3; simp [knownF, e1]; omega))
theorem right_base {x : View} (h : rightV x = true) : 2 ≤ x.base.length := by
  simp only [rightV, headOk, Bool.and_eq_true, decide_eq_true_eq] at h
  exact h.1.1.1.1.1.2
theorem anchor_yes {x : View} (h : rightV x = true) : anchorV x = ownL (x.id + 1) x.base := by simp [anchorV, h]
theorem anchor_no {x : View} (h : rightV x = false) : anchorV x = -1 := by simp [anchorV, h]
theorem first_list {x : View} (h : rightV x = true) (hn : 0 < x.list.length) : firstV x = nth x.list 0 := by simp [firstV, h, hn]
theorem first_none {x : View} (hn : x.list.length = 0) : firstV x = anchorV x := by simp [firstV, hn]
theorem first_bad {x : View} (h : rightV x = false) : firstV x = anchorV x := by simp [firstV, h]

set_option maxHeartbeats 400000 in
theorem finger_place (n : Int) (w : World) :
    Calls Tryd.prog 54 #[.int .i64 n] w fun e w' => e = .returned (.bool (isPl n)) ∧ w = w' := by
  go_enter Tryd.func54, Tryd.ntmps54
  go_wp2_with (go_at_call 77; refine (arc_Place _ _).mono ?_; rintro e w' ⟨rfl, rfl⟩)
  go_ret
  exact ⟨ret_bool (isPl_place n), rfl⟩

set_option maxRecDepth 100000 in
set_option maxHeartbeats 1000000 in
theorem finger_known (x : View) (A1 A2 : Option Addr) (c1 c2 : Nat) (i : Int) (w : World) (h : RepV w x A1 c1 A2 c2) :
    Calls Tryd.prog 49 #[x.v A1 c1 A2 c2, .int .i64 i] w fun e w' => e = .returned (.bool (knownF x i)) ∧ Below w.heap.size w w' := by
  unfold View.v
  go_enter Tryd.func49, Tryd.ntmps49
  go_upto_region 1 with (fail)
  refine name_world fun W0 hW0 => ?_
  have hT := one_start hW0
  clear hW0
  refine known_cases x i _ ?_ ?_ ?_ <;> intros <;> rename_i HR
  all_goals (go_wp2_with (first | (refine wpList_load_view (t := 2) x A1 A2 c1 c2 w.heap.size ?hg ?hw ?hx ?_; (case hg => exact hT.box); (case hw => rfl); (case hx => rfl)) | (go_at_call 56; refine (view_Right x A1 A2 c1 c2 _ (h.below hT.b).base (h.below hT.b).list).mono ?_; rintro e W1 ⟨rfl, hb1⟩; have hT1 := hT.below hb1)))
  all_goals (go_ret; first | exact ⟨ret_bool HR.out.symm, hT1.b⟩ | exact ⟨ret_bool HR.out.symm, hT.b⟩)
set_option maxRecDepth 100000 in
set_option maxHeartbeats 1000000 in
theorem finger_other (x : View) (A1 A2 : Option Addr) (c1 c2 : Nat) (n : Int) (w : World) (h : RepV w x A1 c1 A2 c2) :
    Calls Tryd.prog 55 #[x.v A1 c1 A2 c2, .int .i64 n] w fun e w' => e = .returned (.int .i64 (otherF x n)) ∧ Below w.heap.size w w' := by
  unfold View.v
  go_enter Tryd.func55, Tryd.ntmps55
  go_upto_region 1 with (fail)
  refine name_world fun W0 hW0 => ?_
  have hT := one_start hW0
  clear hW0
  have q0 := hT.box.cells.1
  cases e1 : (n == x.id)
  all_goals (go_wp2; go_ret; exact ⟨ret_int (by simp [otherF, e1]), hT.b⟩)
set_option maxRecDepth 100000 in
set_option maxHeartbeats 1000000 in
theorem view_Anchor (x : View) (A1 A2 : Option Addr) (c1 c2 : Nat) (w : World) (h : RepV w x A1 c1 A2 c2) :
    Calls Tryd.prog 78 #[x.v A1 c1 A2 c2] w fun e w' => e = .returned (.int .i64 (anchorV x)) ∧ Below w.heap.size w w' := by
  unfold View.v
  go_enter Tryd.func78, Tryd.ntmps78
  go_upto_region 1 with (fail)
  refine name_world fun W0 hW0 => ?_
  have hT := one_start hW0
  clear hW0
  cases e1 : rightV x
  case false =>
    go_wp2_with (first | (refine wpList_load_view (t := 1) x A1 A2 c1 c2 w.heap.size ?hg ?hw ?hx ?_; (case hg => exact hT.box); (case hw => rfl); (case hx => rfl)) | (go_at_call 56; refine (view_Right x A1 A2 c1 c2 _ (h.below hT.b).base (h.below hT.b).list).mono ?_; rintro e W1 ⟨he, hb1⟩; rw [e1] at he; subst he; have hT1 := hT.below hb1))
    go_ret
    exact ⟨ret_int (anchor_no e1).symm, hT1.b⟩
  case true =>
    have hid := right_id e1
    have hbl := right_base e1
    have hbp : 0 < x.base.length := by omega
    go_upto_region 3 with (first | (refine wpList_load_view (t := 1) x A1 A2 c1 c2 w.heap.size ?hg ?hw ?hx ?_; (case hg => exact hT.box); (case hw => rfl); (case hx => rfl)) | (go_at_call 56; refine (view_Right x A1 A2 c1 c2 _ (h.below hT.b).base (h.below hT.b).list).mono ?_; rintro e W1 ⟨he, hb1⟩; rw [e1] at he; subst he; have hT1 := hT.below hb1))
    have q0 := hT1.box.cells.1
    have q1 := hT1.box.cells.2.1
    go_wp2_with (go_at_call 60; refine (arc_Owner (x.id + 1) A1 c1 x.base _ (h.below hT1.b).base).mono ?_; rintro e w' ⟨rfl, rfl⟩)
    go_ret
    exact ⟨ret_int (by rw [anchor_yes e1]; try (first | rfl | rw [if_pos hbp])), hT1.b⟩
set_option maxRecDepth 100000 in
set_option maxHeartbeats 1000000 in
theorem r13_Anchor (x : View) (A1 A2 : Option Addr) (c1 c2 : Nat) (w : World) (h : RepV w x A1 c1 A2 c2) :
    Calls Tryd.prog 63 #[x.v A1 c1 A2 c2] w fun e w' => e = .returned (.int .i64 (anchorV x)) ∧ Below w.heap.size w w' := by
  unfold View.v
  go_enter Tryd.func63, Tryd.ntmps63
  go_upto_region 1 with (fail)
  refine name_world fun W0 hW0 => ?_
  have hT := one_start hW0
  clear hW0
  cases e1 : rightV x
  case false =>
    go_wp2_with (first | (refine wpList_load_view (t := 1) x A1 A2 c1 c2 w.heap.size ?hg ?hw ?hx ?_; (case hg => exact hT.box); (case hw => rfl); (case hx => rfl)) | (go_at_call 25; refine (r13_Right x A1 A2 c1 c2 _ (h.below hT.b).base (h.below hT.b).list).mono ?_; rintro e W1 ⟨he, hb1⟩; rw [e1] at he; subst he; have hT1 := hT.below hb1))
    go_ret
    exact ⟨ret_int (anchor_no e1).symm, hT1.b⟩
  case true =>
    have hid := right_id e1
    have hbl := right_base e1
    have hbp : 0 < x.base.length := by omega
    go_upto_region 3 with (first | (refine wpList_load_view (t := 1) x A1 A2 c1 c2 w.heap.size ?hg ?hw ?hx ?_; (case hg => exact hT.box); (case hw => rfl); (case hx => rfl)) | (go_at_call 25; refine (r13_Right x A1 A2 c1 c2 _ (h.below hT.b).base (h.below hT.b).list).mono ?_; rintro e W1 ⟨he, hb1⟩; rw [e1] at he; subst he; have hT1 := hT.below hb1))
    have q0 := hT1.box.cells.1
    have q1 := hT1.box.cells.2.1
    go_wp2_with (go_at_call 26; refine (r03_Owner (x.id + 1) A1 c1 x.base _ (h.below hT1.b).base).mono ?_; rintro e w' ⟨rfl, rfl⟩)
    go_ret
    exact ⟨ret_int (by rw [anchor_yes e1]; try (first | rfl | rw [if_pos hbp])), hT1.b⟩
set_option maxRecDepth 100000 in
set_option maxHeartbeats 1000000 in
theorem view_First (x : View) (A1 A2 : Option Addr) (c1 c2 : Nat) (w : World) (h : RepV w x A1 c1 A2 c2) :
    Calls Tryd.prog 51 #[x.v A1 c1 A2 c2] w fun e w' => e = .returned (.int .i64 (firstV x)) ∧ Below w.heap.size w w' := by
  unfold View.v
  go_enter Tryd.func51, Tryd.ntmps51
  go_upto_region 1 with (fail)
  refine name_world fun W0 hW0 => ?_
  have hT := one_start hW0
  clear hW0
  cases e1 : rightV x
  case false =>
    go_wp2_with (first | (refine wpList_load_view (t := 1) x A1 A2 c1 c2 w.heap.size ?hg ?hw ?hx ?_; (case hg => exact hT.box); (case hw => rfl); (case hx => rfl)) | (refine wpList_load_view (t := 1) x A1 A2 c1 c2 w.heap.size ?hg ?hw ?hx ?_; (case hg => exact hT1.box); (case hw => rfl); (case hx => rfl)) | (go_at_call 56; refine (view_Right x A1 A2 c1 c2 _ (h.below hT.b).base (h.below hT.b).list).mono ?_; rintro e W1 ⟨he, hb1⟩; rw [e1] at he; subst he; have hT1 := hT.below hb1; have q2 := hT1.box.cells.2.2.1) | (go_at_call 78; refine (view_Anchor x A1 A2 c1 c2 _ (h.below hT1.b)).mono ?_; rintro e W2 ⟨rfl, hb2⟩; have hT2 := hT1.below hb2))
    go_ret
    exact ⟨ret_int (first_bad e1).symm, hT2.b⟩
  case true =>
    rcases Nat.eq_zero_or_pos x.list.length with h0 | h0
    · have HF := Lib.hid (first_none h0)
      go_wp2_with (first | (refine wpList_load_view (t := 1) x A1 A2 c1 c2 w.heap.size ?hg ?hw ?hx ?_; (case hg => exact hT.box); (case hw => rfl); (case hx => rfl)) | (refine wpList_load_view (t := 1) x A1 A2 c1 c2 w.heap.size ?hg ?hw ?hx ?_; (case hg => exact hT1.box); (case hw => rfl); (case hx => rfl)) | (go_at_call 56; refine (view_Right x A1 A2 c1 c2 _ (h.below hT.b).base (h.below hT.b).list).mono ?_; rintro e W1 ⟨he, hb1⟩; rw [e1] at he; subst he; have hT1 := hT.below hb1; have q2 := hT1.box.cells.2.2.1) | (go_at_call 78; refine (view_Anchor x A1 A2 c1 c2 _ (h.below hT1.b)).mono ?_; rintro e W2 ⟨rfl, hb2⟩; have hT2 := hT1.below hb2))
      go_ret
      exact ⟨ret_int HF.out.symm, hT2.b⟩
    · have HF := Lib.hid (first_list e1 h0)
      obtain ⟨b, off, hA, hbl, -⟩ := h.list.at_ h0
      have HA := Lib.hid hA
      clear hA
      have hcap := h.list.cap
      go_upto_region 3 with (first | (refine wpList_load_view (t := 1) x A1 A2 c1 c2 w.heap.size ?hg ?hw ?hx ?_; (case hg => exact hT.box); (case hw => rfl); (case hx => rfl)) | (refine wpList_load_view (t := 1) x A1 A2 c1 c2 w.heap.size ?hg ?hw ?hx ?_; (case hg => exact hT1.box); (case hw => rfl); (case hx => rfl)) | (go_at_call 56; refine (view_Right x A1 A2 c1 c2 _ (h.below hT.b).base (h.below hT.b).list).mono ?_; rintro e W1 ⟨he, hb1⟩; rw [e1] at he; subst he; have hT1 := hT.below hb1; have q2 := hT1.box.cells.2.2.1) | (go_at_call 78; refine (view_Anchor x A1 A2 c1 c2 _ (h.below hT1.b)).mono ?_; rintro e W2 ⟨rfl, hb2⟩; have hT2 := hT1.below hb2))
      have hA := HA.out
      rw [hA] at q2
      have hl := (h.below hT1.b).list
      rw [hA] at hl
      have hc := hl.cell h0
      clear hl hA
      rw [Nat.add_zero] at hc
      go_wp2
      go_ret
      exact ⟨ret_int HF.out.symm, hT1.b⟩
set_option maxRecDepth 100000 in
set_option maxHeartbeats 1000000 in
theorem r13_First (x : View) (A1 A2 : Option Addr) (c1 c2 : Nat) (w : World) (h : RepV w x A1 c1 A2 c2) :
    Calls Tryd.prog 28 #[x.v A1 c1 A2 c2] w fun e w' => e = .returned (.int .i64 (firstV x)) ∧ Below w.heap.size w w' := by
  unfold View.v
  go_enter Tryd.func28, Tryd.ntmps28
  go_upto_region 1 with (fail)
  refine name_world fun W0 hW0 => ?_
  have hT := one_start hW0
  clear hW0
  cases e1 : rightV x
  case false =>
    go_wp2_with (first | (refine wpList_load_view (t := 1) x A1 A2 c1 c2 w.heap.size ?hg ?hw ?hx ?_; (case hg => exact hT.box); (case hw => rfl); (case hx => rfl)) | (refine wpList_load_view (t := 1) x A1 A2 c1 c2 w.heap.size ?hg ?hw ?hx ?_; (case hg => exact hT1.box); (case hw => rfl); (case hx => rfl)) | (go_at_call 25; refine (r13_Right x A1 A2 c1 c2 _ (h.below hT.b).base (h.below hT.b).list).mono ?_; rintro e W1 ⟨he, hb1⟩; rw [e1] at he; subst he; have hT1 := hT.below hb1; have q2 := hT1.box.cells.2.2.1) | (go_at_call 63; refine (r13_Anchor x A1 A2 c1 c2 _ (h.below hT1.b)).mono ?_; rintro e W2 ⟨rfl, hb2⟩; have hT2 := hT1.below hb2))
    go_ret
    exact ⟨ret_int (first_bad e1).symm, hT2.b⟩
  case true =>
    rcases Nat.eq_zero_or_pos x.list.length with h0 | h0
    · have HF := Lib.hid (first_none h0)
      go_wp2_with (first | (refine wpList_load_view (t := 1) x A1 A2 c1 c2 w.heap.size ?hg ?hw ?hx ?_; (case hg => exact hT.box); (case hw => rfl); (case hx => rfl)) | (refine wpList_load_view (t := 1) x A1 A2 c1 c2 w.heap.size ?hg ?hw ?hx ?_; (case hg => exact hT1.box); (case hw => rfl); (case hx => rfl)) | (go_at_call 25; refine (r13_Right x A1 A2 c1 c2 _ (h.below hT.b).base (h.below hT.b).list).mono ?_; rintro e W1 ⟨he, hb1⟩; rw [e1] at he; subst he; have hT1 := hT.below hb1; have q2 := hT1.box.cells.2.2.1) | (go_at_call 63; refine (r13_Anchor x A1 A2 c1 c2 _ (h.below hT1.b)).mono ?_; rintro e W2 ⟨rfl, hb2⟩; have hT2 := hT1.below hb2))
      go_ret
      exact ⟨ret_int HF.out.symm, hT2.b⟩
    · have HF := Lib.hid (first_list e1 h0)
      obtain ⟨b, off, hA, hbl, -⟩ := h.list.at_ h0
      have HA := Lib.hid hA
      clear hA
      have hcap := h.list.cap
      go_upto_region 2 with (first | (refine wpList_load_view (t := 1) x A1 A2 c1 c2 w.heap.size ?hg ?hw ?hx ?_; (case hg => exact hT.box); (case hw => rfl); (case hx => rfl)) | (refine wpList_load_view (t := 1) x A1 A2 c1 c2 w.heap.size ?hg ?hw ?hx ?_; (case hg => exact hT1.box); (case hw => rfl); (case hx => rfl)) | (go_at_call 25; refine (r13_Right x A1 A2 c1 c2 _ (h.below hT.b).base (h.below hT.b).list).mono ?_; rintro e W1 ⟨he, hb1⟩; rw [e1] at he; subst he; have hT1 := hT.below hb1; have q2 := hT1.box.cells.2.2.1) | (go_at_call 63; refine (r13_Anchor x A1 A2 c1 c2 _ (h.below hT1.b)).mono ?_; rintro e W2 ⟨rfl, hb2⟩; have hT2 := hT1.below hb2))
      have hA := HA.out
      rw [hA] at q2
      have hl := (h.below hT1.b).list
      rw [hA] at hl
      have hc := hl.cell h0
      clear hl hA
      rw [Nat.add_zero] at hc
      go_wp2
      go_ret
      exact ⟨ret_int HF.out.symm, hT1.b⟩
set_option maxRecDepth 100000 in
set_option maxHeartbeats 1000000 in
theorem finger_Start (x : View) (A1 A2 : Option Addr) (c1 c2 : Nat) (i : Int) (w : World) (h : RepV w x A1 c1 A2 c2) (hs : Steps w) :
    Calls Tryd.prog 14 #[x.v A1 c1 A2 c2, .int .i64 i] w fun e w' => e = .returned (.tuple #[.int .i64 (startP x i), .int .i64 (startE x i)]) ∧ Below w.heap.size w w' := by
  unfold View.v
  go_enter Tryd.func14, Tryd.ntmps14
  go_upto_region 1 with (fail)
  refine name_world fun W0 hW0 => ?_
  have hT := one_start hW0
  clear hW0
  have q0 := hT.box.cells.1
  cases e1 : knownF x i
  all_goals (go_wp2_with (first | (refine wpList_load_view (t := 2) x A1 A2 c1 c2 w.heap.size ?hg ?hw ?hx ?_; (case hg => exact hT.box); (case hw => rfl); (case hx => rfl)) | (go_at_call 49; refine (finger_known x A1 A2 c1 c2 i _ (h.below hT.b)).mono ?_; rintro e W1 ⟨he, hb1⟩; rw [e1] at he; subst he; have hT1 := hT.below hb1; have p0 := hT1.box.cells.1) | (go_at_call 50; refine (arc_Start _ _ _ (hs.below hT1.b)).mono ?_; rintro e w' ⟨rfl, rfl⟩)))
  all_goals (go_ret2; exact ⟨by simp [startP, startE, e1], hT1.b⟩)
set_option maxRecDepth 100000 in
set_option maxHeartbeats 1000000 in
theorem r17_Start (x : View) (A1 A2 : Option Addr) (c1 c2 : Nat) (i : Int) (w : World) (h : RepV w x A1 c1 A2 c2) :
    Calls Tryd.prog 15 #[x.v A1 c1 A2 c2, .int .i64 i] w fun e w' => e = .returned (.tuple #[.int .i64 (startP x i), .int .i64 (startE x i)]) ∧ Below w.heap.size w w' := by
  unfold View.v
  go_enter Tryd.func15, Tryd.ntmps15
  go_upto_region 1 with (fail)
  refine name_world fun W0 hW0 => ?_
  have hT := one_start hW0
  clear hW0
  have q0 := hT.box.cells.1
  cases e1 : rightV x
  case false =>
    have hk : knownF x i = false := by simp [knownF, e1]
    go_wp2_with (first | (refine wpList_load_view (t := 2) x A1 A2 c1 c2 w.heap.size ?hg ?hw ?hx ?_; (case hg => exact hT.box); (case hw => rfl); (case hx => rfl)) | (go_at_call 25; refine (r13_Right x A1 A2 c1 c2 _ (h.below hT.b).base (h.below hT.b).list).mono ?_; rintro e W1 ⟨he, hb1⟩; rw [e1] at he; subst he; have hT1 := hT.below hb1))
    go_ret2
    exact ⟨by simp [startP, startE, hk], hT1.b⟩
  case true =>
    refine known2_cases x i _ ?_ ?_ ?_ ?_ <;> intros <;> rename_i HR
    case refine_1 => rename_i e2; rw [e1] at e2; cases e2
    all_goals (go_wp2_with (first | (refine wpList_load_view (t := 2) x A1 A2 c1 c2 w.heap.size ?hg ?hw ?hx ?_; (case hg => exact hT.box); (case hw => rfl); (case hx => rfl)) | (go_at_call 25; refine (r13_Right x A1 A2 c1 c2 _ (h.below hT.b).base (h.below hT.b).list).mono ?_; rintro e W1 ⟨he, hb1⟩; rw [e1] at he; subst he; have hT1 := hT.below hb1; have p0 := hT1.box.cells.1) | (go_at_call 29; refine (r03_Start _ _ _).mono ?_; rintro e w' ⟨rfl, rfl⟩)))
    all_goals (go_ret2; exact ⟨by simp [startP, startE, HR.out], hT1.b⟩)
set_option maxRecDepth 100000 in
set_option maxHeartbeats 1000000 in
theorem finger_Once (x : View) (A1 A2 : Option Addr) (c1 c2 : Nat) (i : Int) (w : World) (h : RepV w x A1 c1 A2 c2) (hs : Steps w) :
    Calls Tryd.prog 16 #[x.v A1 c1 A2 c2, .int .i64 i] w fun e w' => e = .returned (.tuple #[.int .i64 (onceP x i), .bool (onceF x i)]) ∧ Below w.heap.size w w' := by
  unfold View.v
  go_enter Tryd.func16, Tryd.ntmps16
  go_upto_region 1 with (fail)
  refine name_world fun W0 hW0 => ?_
  have hT := one_start hW0
  clear hW0
  go_upto_region 2 with (first | (refine wpList_load_view (t := 2) x A1 A2 c1 c2 w.heap.size ?hg ?hw ?hx ?_; (case hg => exact hT.box); (case hw => rfl); (case hx => rfl)) | (go_at_call 51; refine (view_First x A1 A2 c1 c2 _ (h.below hT.b)).mono ?_; rintro e W1 ⟨rfl, hb1⟩; have hT1 := hT.below hb1))
  cases e1 : knownF x i
  case false =>
    have ho : onceF x i = false := by simp [onceF, e1]
    refine wp_region_held_drew (S := (fun w' => Has w w' w.heap.size x A1 c1 A2 c2 ∧ Steps w' ∧ Below w.heap.size w w')) (by kernel_rfl) ⟨⟨hT1.box.below ((Below.refl _ _).drew) hT1.box.lt, h.below (hT1.b.drew)⟩, (hs.below hT1.b).below ((Below.refl _ _).drew), hT1.b.drew⟩ (fun hHeld => ?_)
    refine wpAnyH_take (i := 0) (oi := { dst := some 9, op := Op.load 25 (Operand.tmp 2), type := 25, pos := "finger.go:27", after := #[], guard := none }) (v := .agg (x.cells A1 c1 A2 c2)) rfl (by kernel_rfl) (by kernel_rfl) (by kernel_rfl) (fun _ _ _ h => h) (yields_view (t := 2) x A1 A2 c1 c2 w.heap.size (by kernel_rfl) rfl (fun w h => h.1.box)) hHeld ?_
    simp only [Act.put, List.setIfInBounds_toArray, List.set_cons_zero, List.set_cons_succ]
    refine wpAnyH_take (i := 1) (oi := { dst := some 10, op := Op.move (Operand.tmp 1), type := 3, pos := "finger.go:27", after := #[], guard := none }) (v := ?_) rfl (by kernel_rfl) (by kernel_rfl) (by kernel_rfl) (fun _ _ _ h => h) (Or.inl ⟨by kernel_rfl, ?_⟩) hHeld ?_
    rotate_left
    · intro w hSw; go_simp; try with_reducible rfl
    simp only [Act.put, List.setIfInBounds_toArray, List.set_cons_zero, List.set_cons_succ]
    refine wpAnyH_ready (rs := [2]) (by kernel_rfl) (by simp) ?_
    refine AllReadyH.cons (o := { dst := some 11, op := Op.call { callee := Callee.value (Operand.func 49), args := #[Operand.tmp 9, Operand.tmp 10], argTypes := #[25, 3] }, type := 4, pos := "finger.go:27", after := #[{ on := 0, ground := Ground.data }, { on := 1, ground := Ground.data }], guard := none }) rfl (fun K hK => ?_) AllReadyH.nil
    go_simp
    go_wp2_with (go_at_call 49; refine (finger_known x A1 A2 c1 c2 i _ hHeld.1.rep).mono ?_; rintro e V ⟨he, hb⟩; rw [e1] at he; subst he)
    refine hK.out _ _ ⟨hHeld.1.below hb, hHeld.2.1.below hb, hHeld.2.2.trans (hb.mono hHeld.2.2.size)⟩ (fun hHeld => ?_)
    clear hK K
    refine wpAnyH_take (i := 3) (oi := { dst := some 12, op := Op.unOp UnOp.not 4 (Operand.tmp 11), type := 4, pos := "finger.go:27", after := #[{ on := 2, ground := Ground.data }], guard := none }) (v := ?_) rfl (by kernel_rfl) (by kernel_rfl) (by kernel_rfl) (fun _ _ _ h => h) (Or.inl ⟨by kernel_rfl, ?_⟩) hHeld ?_
    rotate_left
    · intro w hSw; go_simp; try with_reducible rfl
    simp only [Act.put, List.setIfInBounds_toArray, List.set_cons_zero, List.set_cons_succ]
    refine wpAnyH_take (i := 4) (oi := { dst := some 13, op := Op.move (Operand.tmp 12), type := 4, pos := "finger.go:27", after := #[{ on := 3, ground := Ground.data }, { on := 2, ground := Ground.chain }], guard := none }) (v := ?_) rfl (by kernel_rfl) (by kernel_rfl) (by kernel_rfl) (fun _ _ _ h => h) (Or.inl ⟨by kernel_rfl, ?_⟩) hHeld ?_
    rotate_left
    · intro w hSw; go_simp; try with_reducible rfl
    simp only [Act.put, List.setIfInBounds_toArray, List.set_cons_zero, List.set_cons_succ]
    refine wpAnyH_take (i := 5) (oi := { dst := some 14, op := Op.fieldAddr 25 (Operand.tmp 2) 0, type := 0, pos := "finger.go:27", after := #[{ on := 4, ground := Ground.guard }], guard := some (4, false) }) (v := undef) rfl (by kernel_rfl) (by kernel_rfl) (by kernel_rfl) (fun _ _ _ h => h) (Or.inr ⟨by kernel_rfl, rfl⟩) hHeld ?_
    simp only [Act.put, List.setIfInBounds_toArray, List.set_cons_zero, List.set_cons_succ]
    refine wpAnyH_take (i := 6) (oi := { dst := some 15, op := Op.load 3 (Operand.tmp 14), type := 3, pos := "finger.go:27", after := #[{ on := 5, ground := Ground.data }, { on := 4, ground := Ground.guard }], guard := some (4, false) }) (v := undef) rfl (by kernel_rfl) (by kernel_rfl) (by kernel_rfl) (fun _ _ _ h => h) (Or.inr ⟨by kernel_rfl, rfl⟩) hHeld ?_
    simp only [Act.put, List.setIfInBounds_toArray, List.set_cons_zero, List.set_cons_succ]
    refine wpAnyH_take (i := 7) (oi := { dst := some 16, op := Op.fieldAddr 25 (Operand.tmp 2) 0, type := 0, pos := "finger.go:27", after := #[{ on := 4, ground := Ground.guard }], guard := some (4, false) }) (v := undef) rfl (by kernel_rfl) (by kernel_rfl) (by kernel_rfl) (fun _ _ _ h => h) (Or.inr ⟨by kernel_rfl, rfl⟩) hHeld ?_
    simp only [Act.put, List.setIfInBounds_toArray, List.set_cons_zero, List.set_cons_succ]
    refine wpAnyH_take (i := 8) (oi := { dst := some 17, op := Op.load 3 (Operand.tmp 16), type := 3, pos := "finger.go:27", after := #[{ on := 7, ground := Ground.data }, { on := 4, ground := Ground.guard }], guard := some (4, false) }) (v := undef) rfl (by kernel_rfl) (by kernel_rfl) (by kernel_rfl) (fun _ _ _ h => h) (Or.inr ⟨by kernel_rfl, rfl⟩) hHeld ?_
    simp only [Act.put, List.setIfInBounds_toArray, List.set_cons_zero, List.set_cons_succ]
    refine wpAnyH_take (i := 9) (oi := { dst := some 18, op := Op.move (Operand.tmp 1), type := 3, pos := "finger.go:27", after := #[{ on := 4, ground := Ground.guard }], guard := some (4, false) }) (v := undef) rfl (by kernel_rfl) (by kernel_rfl) (by kernel_rfl) (fun _ _ _ h => h) (Or.inr ⟨by kernel_rfl, rfl⟩) hHeld ?_
    simp only [Act.put, List.setIfInBounds_toArray, List.set_cons_zero, List.set_cons_succ]
    refine wpAnyH_take (i := 10) (oi := { dst := some 19, op := Op.call { callee := Callee.value (Operand.func 50), args := #[Operand.tmp 17, Operand.tmp 18], argTypes := #[3, 3] }, type := 3, pos := "finger.go:27", after := #[{ on := 8, ground := Ground.data }, { on := 9, ground := Ground.data }, { on := 4, ground := Ground.chain }, { on := 4, ground := Ground.guard }], guard := some (4, false) }) (v := undef) rfl (by kernel_rfl) (by kernel_rfl) (by kernel_rfl) (fun _ _ _ h => h) (Or.inr ⟨by kernel_rfl, rfl⟩) hHeld ?_
    simp only [Act.put, List.setIfInBounds_toArray, List.set_cons_zero, List.set_cons_succ]
    refine wpAnyH_take (i := 11) (oi := { dst := some 20, op := Op.move (Operand.tmp 6), type := 3, pos := "finger.go:27", after := #[{ on := 4, ground := Ground.guard }], guard := some (4, false) }) (v := undef) rfl (by kernel_rfl) (by kernel_rfl) (by kernel_rfl) (fun _ _ _ h => h) (Or.inr ⟨by kernel_rfl, rfl⟩) hHeld ?_
    simp only [Act.put, List.setIfInBounds_toArray, List.set_cons_zero, List.set_cons_succ]
    refine wpAnyH_take (i := 12) (oi := { dst := some 21, op := Op.call { callee := Callee.value (Operand.func 52), args := #[Operand.tmp 15, Operand.tmp 19, Operand.tmp 20], argTypes := #[3, 3, 3] }, type := 4, pos := "finger.go:27", after := #[{ on := 6, ground := Ground.data }, { on := 10, ground := Ground.data }, { on := 11, ground := Ground.data }, { on := 10, ground := Ground.chain }, { on := 4, ground := Ground.guard }], guard := some (4, false) }) (v := undef) rfl (by kernel_rfl) (by kernel_rfl) (by kernel_rfl) (fun _ _ _ h => h) (Or.inr ⟨by kernel_rfl, rfl⟩) hHeld ?_
    simp only [Act.put, List.setIfInBounds_toArray, List.set_cons_zero, List.set_cons_succ]
    refine wpAnyH_take (i := 13) (oi := { dst := some 22, op := Op.unOp UnOp.not 4 (Operand.tmp 21), type := 4, pos := "finger.go:27", after := #[{ on := 12, ground := Ground.data }, { on := 4, ground := Ground.guard }], guard := some (4, false) }) (v := undef) rfl (by kernel_rfl) (by kernel_rfl) (by kernel_rfl) (fun _ _ _ h => h) (Or.inr ⟨by kernel_rfl, rfl⟩) hHeld ?_
    simp only [Act.put, List.setIfInBounds_toArray, List.set_cons_zero, List.set_cons_succ]
    refine wpAnyH_take (i := 14) (oi := { dst := some 23, op := Op.pick (Operand.tmp 13) (Operand.const (Value.bool true)) (Operand.tmp 22), type := 4, pos := "finger.go:27", after := #[{ on := 4, ground := Ground.data }, { on := 13, ground := Ground.data }], guard := none }) (v := ?_) rfl (by kernel_rfl) (by kernel_rfl) (by kernel_rfl) (fun _ _ _ h => h) (Or.inl ⟨by kernel_rfl, ?_⟩) hHeld ?_
    rotate_left
    · intro w hSw; go_simp; try with_reducible rfl
    simp only [Act.put, List.setIfInBounds_toArray, List.set_cons_zero, List.set_cons_succ]
    refine wpAnyH_done (by kernel_rfl) ?_ _
    go_wp2
    go_ret2
    exact ⟨by simp [onceP, ho], hHeld.2.2⟩
  case true =>
    cases e2 : upTo x.id (startF x.id i) (firstV x)
    case false =>
      have ho : onceF x i = false := by simp [onceF, e1, e2]
      refine wp_region_held_drew (S := (fun w' => Has w w' w.heap.size x A1 c1 A2 c2 ∧ Steps w' ∧ Below w.heap.size w w')) (by kernel_rfl) ⟨⟨hT1.box.below ((Below.refl _ _).drew) hT1.box.lt, h.below (hT1.b.drew)⟩, (hs.below hT1.b).below ((Below.refl _ _).drew), hT1.b.drew⟩ (fun hHeld => ?_)
      refine wpAnyH_take (i := 0) (oi := { dst := some 9, op := Op.load 25 (Operand.tmp 2), type := 25, pos := "finger.go:27", after := #[], guard := none }) (v := .agg (x.cells A1 c1 A2 c2)) rfl (by kernel_rfl) (by kernel_rfl) (by kernel_rfl) (fun _ _ _ h => h) (yields_view (t := 2) x A1 A2 c1 c2 w.heap.size (by kernel_rfl) rfl (fun w h => h.1.box)) hHeld ?_
      simp only [Act.put, List.setIfInBounds_toArray, List.set_cons_zero, List.set_cons_succ]
      refine wpAnyH_take (i := 1) (oi := { dst := some 10, op := Op.move (Operand.tmp 1), type := 3, pos := "finger.go:27", after := #[], guard := none }) (v := ?_) rfl (by kernel_rfl) (by kernel_rfl) (by kernel_rfl) (fun _ _ _ h => h) (Or.inl ⟨by kernel_rfl, ?_⟩) hHeld ?_
      rotate_left
      · intro w hSw; go_simp; try with_reducible rfl
      simp only [Act.put, List.setIfInBounds_toArray, List.set_cons_zero, List.set_cons_succ]
      refine wpAnyH_ready (rs := [2]) (by kernel_rfl) (by simp) ?_
      refine AllReadyH.cons (o := { dst := some 11, op := Op.call { callee := Callee.value (Operand.func 49), args := #[Operand.tmp 9, Operand.tmp 10], argTypes := #[25, 3] }, type := 4, pos := "finger.go:27", after := #[{ on := 0, ground := Ground.data }, { on := 1, ground := Ground.data }], guard := none }) rfl (fun K hK => ?_) AllReadyH.nil
      go_simp
      go_wp2_with (go_at_call 49; refine (finger_known x A1 A2 c1 c2 i _ hHeld.1.rep).mono ?_; rintro e V ⟨he, hb⟩; rw [e1] at he; subst he)
      refine hK.out _ _ ⟨hHeld.1.below hb, hHeld.2.1.below hb, hHeld.2.2.trans (hb.mono hHeld.2.2.size)⟩ (fun hHeld => ?_)
      clear hK K
      refine wpAnyH_take (i := 3) (oi := { dst := some 12, op := Op.unOp UnOp.not 4 (Operand.tmp 11), type := 4, pos := "finger.go:27", after := #[{ on := 2, ground := Ground.data }], guard := none }) (v := ?_) rfl (by kernel_rfl) (by kernel_rfl) (by kernel_rfl) (fun _ _ _ h => h) (Or.inl ⟨by kernel_rfl, ?_⟩) hHeld ?_
      rotate_left
      · intro w hSw; go_simp; try with_reducible rfl
      simp only [Act.put, List.setIfInBounds_toArray, List.set_cons_zero, List.set_cons_succ]
      refine wpAnyH_take (i := 4) (oi := { dst := some 13, op := Op.move (Operand.tmp 12), type := 4, pos := "finger.go:27", after := #[{ on := 3, ground := Ground.data }, { on := 2, ground := Ground.chain }], guard := none }) (v := ?_) rfl (by kernel_rfl) (by kernel_rfl) (by kernel_rfl) (fun _ _ _ h => h) (Or.inl ⟨by kernel_rfl, ?_⟩) hHeld ?_
      rotate_left
      · intro w hSw; go_simp; try with_reducible rfl
      simp only [Act.put, List.setIfInBounds_toArray, List.set_cons_zero, List.set_cons_succ]
      refine wpAnyH_take (i := 5) (oi := { dst := some 14, op := Op.fieldAddr 25 (Operand.tmp 2) 0, type := 0, pos := "finger.go:27", after := #[{ on := 4, ground := Ground.guard }], guard := some (4, false) }) (v := ?_) rfl (by kernel_rfl) (by kernel_rfl) (by kernel_rfl) (fun _ _ _ h => h) (Or.inl ⟨by kernel_rfl, ?_⟩) hHeld ?_
      rotate_left
      · intro w hSw; go_simp; try with_reducible rfl
      simp only [Act.put, List.setIfInBounds_toArray, List.set_cons_zero, List.set_cons_succ]
      refine wpAnyH_take (i := 6) (oi := { dst := some 15, op := Op.load 3 (Operand.tmp 14), type := 3, pos := "finger.go:27", after := #[{ on := 5, ground := Ground.data }, { on := 4, ground := Ground.guard }], guard := some (4, false) }) (v := ?_) rfl (by kernel_rfl) (by kernel_rfl) (by kernel_rfl) (fun _ _ _ h => h) (Or.inl ⟨by kernel_rfl, ?_⟩) hHeld ?_
      rotate_left
      · intro w hSw; have k0 := hSw.1.box.cells.1; go_simp; try with_reducible rfl
      simp only [Act.put, List.setIfInBounds_toArray, List.set_cons_zero, List.set_cons_succ]
      refine wpAnyH_take (i := 7) (oi := { dst := some 16, op := Op.fieldAddr 25 (Operand.tmp 2) 0, type := 0, pos := "finger.go:27", after := #[{ on := 4, ground := Ground.guard }], guard := some (4, false) }) (v := ?_) rfl (by kernel_rfl) (by kernel_rfl) (by kernel_rfl) (fun _ _ _ h => h) (Or.inl ⟨by kernel_rfl, ?_⟩) hHeld ?_
      rotate_left
      · intro w hSw; go_simp; try with_reducible rfl
      simp only [Act.put, List.setIfInBounds_toArray, List.set_cons_zero, List.set_cons_succ]
      refine wpAnyH_take (i := 8) (oi := { dst := some 17, op := Op.load 3 (Operand.tmp 16), type := 3, pos := "finger.go:27", after := #[{ on := 7, ground := Ground.data }, { on := 4, ground := Ground.guard }], guard := some (4, false) }) (v := ?_) rfl (by kernel_rfl) (by kernel_rfl) (by kernel_rfl) (fun _ _ _ h => h) (Or.inl ⟨by kernel_rfl, ?_⟩) hHeld ?_
      rotate_left
      · intro w hSw; have k0 := hSw.1.box.cells.1; go_simp; try with_reducible rfl
      simp only [Act.put, List.setIfInBounds_toArray, List.set_cons_zero, List.set_cons_succ]
      refine wpAnyH_take (i := 9) (oi := { dst := some 18, op := Op.move (Operand.tmp 1), type := 3, pos := "finger.go:27", after := #[{ on := 4, ground := Ground.guard }], guard := some (4, false) }) (v := ?_) rfl (by kernel_rfl) (by kernel_rfl) (by kernel_rfl) (fun _ _ _ h => h) (Or.inl ⟨by kernel_rfl, ?_⟩) hHeld ?_
      rotate_left
      · intro w hSw; go_simp; try with_reducible rfl
      simp only [Act.put, List.setIfInBounds_toArray, List.set_cons_zero, List.set_cons_succ]
      refine wpAnyH_take (i := 11) (oi := { dst := some 20, op := Op.move (Operand.tmp 6), type := 3, pos := "finger.go:27", after := #[{ on := 4, ground := Ground.guard }], guard := some (4, false) }) (v := ?_) rfl (by kernel_rfl) (by kernel_rfl) (by kernel_rfl) (fun _ _ _ h => h) (Or.inl ⟨by kernel_rfl, ?_⟩) hHeld ?_
      rotate_left
      · intro w hSw; go_simp; try with_reducible rfl
      simp only [Act.put, List.setIfInBounds_toArray, List.set_cons_zero, List.set_cons_succ]
      refine wpAnyH_ready (rs := [10]) (by kernel_rfl) (by simp) ?_
      refine AllReadyH.cons (o := { dst := some 19, op := Op.call { callee := Callee.value (Operand.func 50), args := #[Operand.tmp 17, Operand.tmp 18], argTypes := #[3, 3] }, type := 3, pos := "finger.go:27", after := #[{ on := 8, ground := Ground.data }, { on := 9, ground := Ground.data }, { on := 4, ground := Ground.chain }, { on := 4, ground := Ground.guard }], guard := some (4, false) }) rfl (fun K hK => ?_) AllReadyH.nil
      go_simp
      go_wp2_with (go_at_call 50; refine (arc_Start x.id i _ hHeld.2.1).mono ?_; rintro e V ⟨rfl, rfl⟩)
      refine hK.out _ _ hHeld (fun hHeld => ?_)
      clear hK K
      refine wpAnyH_ready (rs := [12]) (by kernel_rfl) (by simp) ?_
      refine AllReadyH.cons (o := { dst := some 21, op := Op.call { callee := Callee.value (Operand.func 52), args := #[Operand.tmp 15, Operand.tmp 19, Operand.tmp 20], argTypes := #[3, 3, 3] }, type := 4, pos := "finger.go:27", after := #[{ on := 6, ground := Ground.data }, { on := 10, ground := Ground.data }, { on := 11, ground := Ground.data }, { on := 10, ground := Ground.chain }, { on := 4, ground := Ground.guard }], guard := some (4, false) }) rfl (fun K hK => ?_) AllReadyH.nil
      go_simp
      go_wp2_with (go_at_call 52; refine (arc_UpTo _ _ _ _).mono ?_; rintro e V ⟨he, rfl⟩; rw [e2] at he; subst he)
      refine hK.out _ _ hHeld (fun hHeld => ?_)
      clear hK K
      refine wpAnyH_take (i := 13) (oi := { dst := some 22, op := Op.unOp UnOp.not 4 (Operand.tmp 21), type := 4, pos := "finger.go:27", after := #[{ on := 12, ground := Ground.data }, { on := 4, ground := Ground.guard }], guard := some (4, false) }) (v := ?_) rfl (by kernel_rfl) (by kernel_rfl) (by kernel_rfl) (fun _ _ _ h => h) (Or.inl ⟨by kernel_rfl, ?_⟩) hHeld ?_
      rotate_left
      · intro w hSw; go_simp; try with_reducible rfl
      simp only [Act.put, List.setIfInBounds_toArray, List.set_cons_zero, List.set_cons_succ]
      refine wpAnyH_take (i := 14) (oi := { dst := some 23, op := Op.pick (Operand.tmp 13) (Operand.const (Value.bool true)) (Operand.tmp 22), type := 4, pos := "finger.go:27", after := #[{ on := 4, ground := Ground.data }, { on := 13, ground := Ground.data }], guard := none }) (v := ?_) rfl (by kernel_rfl) (by kernel_rfl) (by kernel_rfl) (fun _ _ _ h => h) (Or.inl ⟨by kernel_rfl, ?_⟩) hHeld ?_
      rotate_left
      · intro w hSw; go_simp; try with_reducible rfl
      simp only [Act.put, List.setIfInBounds_toArray, List.set_cons_zero, List.set_cons_succ]
      refine wpAnyH_done (by kernel_rfl) ?_ _
      go_wp2
      go_ret2
      exact ⟨by simp [onceP, ho], hHeld.2.2⟩
    case true =>
      have ho : onceF x i = true := by simp [onceF, e1, e2]
      refine wp_region_held_drew (S := (fun w' => Has w w' w.heap.size x A1 c1 A2 c2 ∧ Steps w' ∧ Below w.heap.size w w')) (by kernel_rfl) ⟨⟨hT1.box.below ((Below.refl _ _).drew) hT1.box.lt, h.below (hT1.b.drew)⟩, (hs.below hT1.b).below ((Below.refl _ _).drew), hT1.b.drew⟩ (fun hHeld => ?_)
      refine wpAnyH_take (i := 0) (oi := { dst := some 9, op := Op.load 25 (Operand.tmp 2), type := 25, pos := "finger.go:27", after := #[], guard := none }) (v := .agg (x.cells A1 c1 A2 c2)) rfl (by kernel_rfl) (by kernel_rfl) (by kernel_rfl) (fun _ _ _ h => h) (yields_view (t := 2) x A1 A2 c1 c2 w.heap.size (by kernel_rfl) rfl (fun w h => h.1.box)) hHeld ?_
      simp only [Act.put, List.setIfInBounds_toArray, List.set_cons_zero, List.set_cons_succ]
      refine wpAnyH_take (i := 1) (oi := { dst := some 10, op := Op.move (Operand.tmp 1), type := 3, pos := "finger.go:27", after := #[], guard := none }) (v := ?_) rfl (by kernel_rfl) (by kernel_rfl) (by kernel_rfl) (fun _ _ _ h => h) (Or.inl ⟨by kernel_rfl, ?_⟩) hHeld ?_
      rotate_left
      · intro w hSw; go_simp; try with_reducible rfl
      simp only [Act.put, List.setIfInBounds_toArray, List.set_cons_zero, List.set_cons_succ]
      refine wpAnyH_ready (rs := [2]) (by kernel_rfl) (by simp) ?_
      refine AllReadyH.cons (o := { dst := some 11, op := Op.call { callee := Callee.value (Operand.func 49), args := #[Operand.tmp 9, Operand.tmp 10], argTypes := #[25, 3] }, type := 4, pos := "finger.go:27", after := #[{ on := 0, ground := Ground.data }, { on := 1, ground := Ground.data }], guard := none }) rfl (fun K hK => ?_) AllReadyH.nil
      go_simp
      go_wp2_with (go_at_call 49; refine (finger_known x A1 A2 c1 c2 i _ hHeld.1.rep).mono ?_; rintro e V ⟨he, hb⟩; rw [e1] at he; subst he)
      refine hK.out _ _ ⟨hHeld.1.below hb, hHeld.2.1.below hb, hHeld.2.2.trans (hb.mono hHeld.2.2.size)⟩ (fun hHeld => ?_)
      clear hK K
      refine wpAnyH_take (i := 3) (oi := { dst := some 12, op := Op.unOp UnOp.not 4 (Operand.tmp 11), type := 4, pos := "finger.go:27", after := #[{ on := 2, ground := Ground.data }], guard := none }) (v := ?_) rfl (by kernel_rfl) (by kernel_rfl) (by kernel_rfl) (fun _ _ _ h => h) (Or.inl ⟨by kernel_rfl, ?_⟩) hHeld ?_
      rotate_left
      · intro w hSw; go_simp; try with_reducible rfl
      simp only [Act.put, List.setIfInBounds_toArray, List.set_cons_zero, List.set_cons_succ]
      refine wpAnyH_take (i := 4) (oi := { dst := some 13, op := Op.move (Operand.tmp 12), type := 4, pos := "finger.go:27", after := #[{ on := 3, ground := Ground.data }, { on := 2, ground := Ground.chain }], guard := none }) (v := ?_) rfl (by kernel_rfl) (by kernel_rfl) (by kernel_rfl) (fun _ _ _ h => h) (Or.inl ⟨by kernel_rfl, ?_⟩) hHeld ?_
      rotate_left
      · intro w hSw; go_simp; try with_reducible rfl
      simp only [Act.put, List.setIfInBounds_toArray, List.set_cons_zero, List.set_cons_succ]
      refine wpAnyH_take (i := 5) (oi := { dst := some 14, op := Op.fieldAddr 25 (Operand.tmp 2) 0, type := 0, pos := "finger.go:27", after := #[{ on := 4, ground := Ground.guard }], guard := some (4, false) }) (v := ?_) rfl (by kernel_rfl) (by kernel_rfl) (by kernel_rfl) (fun _ _ _ h => h) (Or.inl ⟨by kernel_rfl, ?_⟩) hHeld ?_
      rotate_left
      · intro w hSw; go_simp; try with_reducible rfl
      simp only [Act.put, List.setIfInBounds_toArray, List.set_cons_zero, List.set_cons_succ]
      refine wpAnyH_take (i := 6) (oi := { dst := some 15, op := Op.load 3 (Operand.tmp 14), type := 3, pos := "finger.go:27", after := #[{ on := 5, ground := Ground.data }, { on := 4, ground := Ground.guard }], guard := some (4, false) }) (v := ?_) rfl (by kernel_rfl) (by kernel_rfl) (by kernel_rfl) (fun _ _ _ h => h) (Or.inl ⟨by kernel_rfl, ?_⟩) hHeld ?_
      rotate_left
      · intro w hSw; have k0 := hSw.1.box.cells.1; go_simp; try with_reducible rfl
      simp only [Act.put, List.setIfInBounds_toArray, List.set_cons_zero, List.set_cons_succ]
      refine wpAnyH_take (i := 7) (oi := { dst := some 16, op := Op.fieldAddr 25 (Operand.tmp 2) 0, type := 0, pos := "finger.go:27", after := #[{ on := 4, ground := Ground.guard }], guard := some (4, false) }) (v := ?_) rfl (by kernel_rfl) (by kernel_rfl) (by kernel_rfl) (fun _ _ _ h => h) (Or.inl ⟨by kernel_rfl, ?_⟩) hHeld ?_
      rotate_left
      · intro w hSw; go_simp; try with_reducible rfl
      simp only [Act.put, List.setIfInBounds_toArray, List.set_cons_zero, List.set_cons_succ]
      refine wpAnyH_take (i := 8) (oi := { dst := some 17, op := Op.load 3 (Operand.tmp 16), type := 3, pos := "finger.go:27", after := #[{ on := 7, ground := Ground.data }, { on := 4, ground := Ground.guard }], guard := some (4, false) }) (v := ?_) rfl (by kernel_rfl) (by kernel_rfl) (by kernel_rfl) (fun _ _ _ h => h) (Or.inl ⟨by kernel_rfl, ?_⟩) hHeld ?_
      rotate_left
      · intro w hSw; have k0 := hSw.1.box.cells.1; go_simp; try with_reducible rfl
      simp only [Act.put, List.setIfInBounds_toArray, List.set_cons_zero, List.set_cons_succ]
      refine wpAnyH_take (i := 9) (oi := { dst := some 18, op := Op.move (Operand.tmp 1), type := 3, pos := "finger.go:27", after := #[{ on := 4, ground := Ground.guard }], guard := some (4, false) }) (v := ?_) rfl (by kernel_rfl) (by kernel_rfl) (by kernel_rfl) (fun _ _ _ h => h) (Or.inl ⟨by kernel_rfl, ?_⟩) hHeld ?_
      rotate_left
      · intro w hSw; go_simp; try with_reducible rfl
      simp only [Act.put, List.setIfInBounds_toArray, List.set_cons_zero, List.set_cons_succ]
      refine wpAnyH_take (i := 11) (oi := { dst := some 20, op := Op.move (Operand.tmp 6), type := 3, pos := "finger.go:27", after := #[{ on := 4, ground := Ground.guard }], guard := some (4, false) }) (v := ?_) rfl (by kernel_rfl) (by kernel_rfl) (by kernel_rfl) (fun _ _ _ h => h) (Or.inl ⟨by kernel_rfl, ?_⟩) hHeld ?_
      rotate_left
      · intro w hSw; go_simp; try with_reducible rfl
      simp only [Act.put, List.setIfInBounds_toArray, List.set_cons_zero, List.set_cons_succ]
      refine wpAnyH_ready (rs := [10]) (by kernel_rfl) (by simp) ?_
      refine AllReadyH.cons (o := { dst := some 19, op := Op.call { callee := Callee.value (Operand.func 50), args := #[Operand.tmp 17, Operand.tmp 18], argTypes := #[3, 3] }, type := 3, pos := "finger.go:27", after := #[{ on := 8, ground := Ground.data }, { on := 9, ground := Ground.data }, { on := 4, ground := Ground.chain }, { on := 4, ground := Ground.guard }], guard := some (4, false) }) rfl (fun K hK => ?_) AllReadyH.nil
      go_simp
      go_wp2_with (go_at_call 50; refine (arc_Start x.id i _ hHeld.2.1).mono ?_; rintro e V ⟨rfl, rfl⟩)
      refine hK.out _ _ hHeld (fun hHeld => ?_)
      clear hK K
      refine wpAnyH_ready (rs := [12]) (by kernel_rfl) (by simp) ?_
      refine AllReadyH.cons (o := { dst := some 21, op := Op.call { callee := Callee.value (Operand.func 52), args := #[Operand.tmp 15, Operand.tmp 19, Operand.tmp 20], argTypes := #[3, 3, 3] }, type := 4, pos := "finger.go:27", after := #[{ on := 6, ground := Ground.data }, { on := 10, ground := Ground.data }, { on := 11, ground := Ground.data }, { on := 10, ground := Ground.chain }, { on := 4, ground := Ground.guard }], guard := some (4, false) }) rfl (fun K hK => ?_) AllReadyH.nil
      go_simp
      go_wp2_with (go_at_call 52; refine (arc_UpTo _ _ _ _).mono ?_; rintro e V ⟨he, rfl⟩; rw [e2] at he; subst he)
      refine hK.out _ _ hHeld (fun hHeld => ?_)
      clear hK K
      refine wpAnyH_take (i := 13) (oi := { dst := some 22, op := Op.unOp UnOp.not 4 (Operand.tmp 21), type := 4, pos := "finger.go:27", after := #[{ on := 12, ground := Ground.data }, { on := 4, ground := Ground.guard }], guard := some (4, false) }) (v := ?_) rfl (by kernel_rfl) (by kernel_rfl) (by kernel_rfl) (fun _ _ _ h => h) (Or.inl ⟨by kernel_rfl, ?_⟩) hHeld ?_
      rotate_left
      · intro w hSw; go_simp; try with_reducible rfl
      simp only [Act.put, List.setIfInBounds_toArray, List.set_cons_zero, List.set_cons_succ]
      refine wpAnyH_take (i := 14) (oi := { dst := some 23, op := Op.pick (Operand.tmp 13) (Operand.const (Value.bool true)) (Operand.tmp 22), type := 4, pos := "finger.go:27", after := #[{ on := 4, ground := Ground.data }, { on := 13, ground := Ground.data }], guard := none }) (v := ?_) rfl (by kernel_rfl) (by kernel_rfl) (by kernel_rfl) (fun _ _ _ h => h) (Or.inl ⟨by kernel_rfl, ?_⟩) hHeld ?_
      rotate_left
      · intro w hSw; go_simp; try with_reducible rfl
      simp only [Act.put, List.setIfInBounds_toArray, List.set_cons_zero, List.set_cons_succ]
      refine wpAnyH_done (by kernel_rfl) ?_ _
      go_wp2
      go_ret2
      exact ⟨by simp [onceP, ho], hHeld.2.2⟩
set_option maxRecDepth 100000 in
set_option maxHeartbeats 1000000 in
theorem r17_Once (x : View) (A1 A2 : Option Addr) (c1 c2 : Nat) (i : Int) (w : World) (h : RepV w x A1 c1 A2 c2) :
    Calls Tryd.prog 17 #[x.v A1 c1 A2 c2, .int .i64 i] w fun e w' => e = .returned (.tuple #[.int .i64 (onceP x i), .bool (onceF x i)]) ∧ Below w.heap.size w w' := by
  unfold View.v
  go_enter Tryd.func17, Tryd.ntmps17
  go_upto_region 1 with (fail)
  refine name_world fun W0 hW0 => ?_
  have hT := one_start hW0
  clear hW0
  cases e1 : knownF x i
  case false =>
    have ho : onceF x i = false := by simp [onceF, e1]
    have eP : startP x i = 0 := by simp [startP, e1]
    have eE : startE x i = 2 := by simp [startE, e1]
    go_upto_region 2 with (first | (refine wpList_load_view (t := 2) x A1 A2 c1 c2 w.heap.size ?hg ?hw ?hx ?_; (case hg => exact hT.box); (case hw => rfl); (case hx => rfl)) | (go_at_call 15; refine (r17_Start x A1 A2 c1 c2 _ _ (h.below hT.b)).mono ?_; rintro e W1 ⟨he, hb1⟩; rw [eP, eE] at he; subst he; have hT1 := hT.below hb1))
    refine wp_region_held_drew (S := (fun w' => Has w w' w.heap.size x A1 c1 A2 c2 ∧ Below w.heap.size w w')) (by kernel_rfl) ⟨⟨hT1.box.below ((Below.refl _ _).drew) hT1.box.lt, h.below (hT1.b.drew)⟩, hT1.b.drew⟩ (fun hHeld => ?_)
    refine wpAnyH_take (i := 0) (oi := { dst := some 14, op := Op.move (Operand.tmp 7), type := 28, pos := "ref.go:21", after := #[], guard := none }) (v := ?_) rfl (by kernel_rfl) (by kernel_rfl) (by kernel_rfl) (fun _ _ _ h => h) (Or.inl ⟨by kernel_rfl, ?_⟩) hHeld ?_
    rotate_left
    · intro w hSw; go_simp; try with_reducible rfl
    simp only [Act.put, List.setIfInBounds_toArray, List.set_cons_zero, List.set_cons_succ]
    refine wpAnyH_take (i := 1) (oi := { dst := some 15, op := Op.binOp BinOp.neq 28 (Operand.tmp 14) (Operand.const (Value.int IntKind.i64 0)) 28, type := 4, pos := "ref.go:21", after := #[{ on := 0, ground := Ground.data }], guard := none }) (v := ?_) rfl (by kernel_rfl) (by kernel_rfl) (by kernel_rfl) (fun _ _ _ h => h) (Or.inl ⟨by kernel_rfl, ?_⟩) hHeld ?_
    rotate_left
    · intro w hSw; go_simp; try with_reducible rfl
    simp only [Act.put, List.setIfInBounds_toArray, List.set_cons_zero, List.set_cons_succ]
    refine wpAnyH_take (i := 2) (oi := { dst := some 16, op := Op.move (Operand.tmp 15), type := 4, pos := "ref.go:21", after := #[{ on := 1, ground := Ground.data }], guard := none }) (v := ?_) rfl (by kernel_rfl) (by kernel_rfl) (by kernel_rfl) (fun _ _ _ h => h) (Or.inl ⟨by kernel_rfl, ?_⟩) hHeld ?_
    rotate_left
    · intro w hSw; go_simp; try with_reducible rfl
    simp only [Act.put, List.setIfInBounds_toArray, List.set_cons_zero, List.set_cons_succ]
    refine wpAnyH_take (i := 3) (oi := { dst := some 17, op := Op.fieldAddr 25 (Operand.tmp 2) 0, type := 0, pos := "ref.go:21", after := #[{ on := 2, ground := Ground.guard }], guard := some (2, false) }) (v := undef) rfl (by kernel_rfl) (by kernel_rfl) (by kernel_rfl) (fun _ _ _ h => h) (Or.inr ⟨by kernel_rfl, rfl⟩) hHeld ?_
    simp only [Act.put, List.setIfInBounds_toArray, List.set_cons_zero, List.set_cons_succ]
    refine wpAnyH_take (i := 4) (oi := { dst := some 18, op := Op.load 3 (Operand.tmp 17), type := 3, pos := "ref.go:21", after := #[{ on := 3, ground := Ground.data }, { on := 2, ground := Ground.guard }], guard := some (2, false) }) (v := undef) rfl (by kernel_rfl) (by kernel_rfl) (by kernel_rfl) (fun _ _ _ h => h) (Or.inr ⟨by kernel_rfl, rfl⟩) hHeld ?_
    simp only [Act.put, List.setIfInBounds_toArray, List.set_cons_zero, List.set_cons_succ]
    refine wpAnyH_take (i := 5) (oi := { dst := some 19, op := Op.move (Operand.tmp 6), type := 3, pos := "ref.go:21", after := #[{ on := 2, ground := Ground.guard }], guard := some (2, false) }) (v := undef) rfl (by kernel_rfl) (by kernel_rfl) (by kernel_rfl) (fun _ _ _ h => h) (Or.inr ⟨by kernel_rfl, rfl⟩) hHeld ?_
    simp only [Act.put, List.setIfInBounds_toArray, List.set_cons_zero, List.set_cons_succ]
    refine wpAnyH_take (i := 6) (oi := { dst := some 20, op := Op.load 25 (Operand.tmp 2), type := 25, pos := "ref.go:21", after := #[{ on := 2, ground := Ground.guard }], guard := some (2, false) }) (v := undef) rfl (by kernel_rfl) (by kernel_rfl) (by kernel_rfl) (fun _ _ _ h => h) (Or.inr ⟨by kernel_rfl, rfl⟩) hHeld ?_
    simp only [Act.put, List.setIfInBounds_toArray, List.set_cons_zero, List.set_cons_succ]
    refine wpAnyH_take (i := 7) (oi := { dst := some 21, op := Op.call { callee := Callee.value (Operand.func 28), args := #[Operand.tmp 20], argTypes := #[25] }, type := 3, pos := "ref.go:21", after := #[{ on := 6, ground := Ground.data }, { on := 2, ground := Ground.chain }, { on := 2, ground := Ground.guard }], guard := some (2, false) }) (v := undef) rfl (by kernel_rfl) (by kernel_rfl) (by kernel_rfl) (fun _ _ _ h => h) (Or.inr ⟨by kernel_rfl, rfl⟩) hHeld ?_
    simp only [Act.put, List.setIfInBounds_toArray, List.set_cons_zero, List.set_cons_succ]
    refine wpAnyH_take (i := 8) (oi := { dst := some 22, op := Op.call { callee := Callee.value (Operand.func 40), args := #[Operand.tmp 18, Operand.tmp 19, Operand.tmp 21], argTypes := #[3, 3, 3] }, type := 4, pos := "ref.go:21", after := #[{ on := 4, ground := Ground.data }, { on := 5, ground := Ground.data }, { on := 7, ground := Ground.data }, { on := 7, ground := Ground.chain }, { on := 2, ground := Ground.guard }], guard := some (2, false) }) (v := undef) rfl (by kernel_rfl) (by kernel_rfl) (by kernel_rfl) (fun _ _ _ h => h) (Or.inr ⟨by kernel_rfl, rfl⟩) hHeld ?_
    simp only [Act.put, List.setIfInBounds_toArray, List.set_cons_zero, List.set_cons_succ]
    refine wpAnyH_take (i := 9) (oi := { dst := some 23, op := Op.unOp UnOp.not 4 (Operand.tmp 22), type := 4, pos := "ref.go:21", after := #[{ on := 8, ground := Ground.data }, { on := 2, ground := Ground.guard }], guard := some (2, false) }) (v := undef) rfl (by kernel_rfl) (by kernel_rfl) (by kernel_rfl) (fun _ _ _ h => h) (Or.inr ⟨by kernel_rfl, rfl⟩) hHeld ?_
    simp only [Act.put, List.setIfInBounds_toArray, List.set_cons_zero, List.set_cons_succ]
    refine wpAnyH_take (i := 10) (oi := { dst := some 24, op := Op.pick (Operand.tmp 16) (Operand.const (Value.bool true)) (Operand.tmp 23), type := 4, pos := "ref.go:21", after := #[{ on := 2, ground := Ground.data }, { on := 9, ground := Ground.data }], guard := none }) (v := ?_) rfl (by kernel_rfl) (by kernel_rfl) (by kernel_rfl) (fun _ _ _ h => h) (Or.inl ⟨by kernel_rfl, ?_⟩) hHeld ?_
    rotate_left
    · intro w hSw; go_simp; try with_reducible rfl
    simp only [Act.put, List.setIfInBounds_toArray, List.set_cons_zero, List.set_cons_succ]
    refine wpAnyH_done (by kernel_rfl) ?_ _
    go_wp2
    go_ret2
    exact ⟨by simp [onceP, ho], hHeld.2⟩
  case true =>
    have eP : startP x i = startF x.id i := by simp [startP, e1]
    have eE : startE x i = 0 := by simp [startE, e1]
    cases e2 : upTo x.id (startF x.id i) (firstV x)
    case false =>
      have ho : onceF x i = false := by simp [onceF, e1, e2]
      go_upto_region 2 with (first | (refine wpList_load_view (t := 2) x A1 A2 c1 c2 w.heap.size ?hg ?hw ?hx ?_; (case hg => exact hT.box); (case hw => rfl); (case hx => rfl)) | (go_at_call 15; refine (r17_Start x A1 A2 c1 c2 _ _ (h.below hT.b)).mono ?_; rintro e W1 ⟨he, hb1⟩; rw [eP, eE] at he; subst he; have hT1 := hT.below hb1))
      refine wp_region_held_drew (S := (fun w' => Has w w' w.heap.size x A1 c1 A2 c2 ∧ Below w.heap.size w w')) (by kernel_rfl) ⟨⟨hT1.box.below ((Below.refl _ _).drew) hT1.box.lt, h.below (hT1.b.drew)⟩, hT1.b.drew⟩ (fun hHeld => ?_)
      refine wpAnyH_take (i := 0) (oi := { dst := some 14, op := Op.move (Operand.tmp 7), type := 28, pos := "ref.go:21", after := #[], guard := none }) (v := ?_) rfl (by kernel_rfl) (by kernel_rfl) (by kernel_rfl) (fun _ _ _ h => h) (Or.inl ⟨by kernel_rfl, ?_⟩) hHeld ?_
      rotate_left
      · intro w hSw; go_simp; try with_reducible rfl
      simp only [Act.put, List.setIfInBounds_toArray, List.set_cons_zero, List.set_cons_succ]
      refine wpAnyH_take (i := 1) (oi := { dst := some 15, op := Op.binOp BinOp.neq 28 (Operand.tmp 14) (Operand.const (Value.int IntKind.i64 0)) 28, type := 4, pos := "ref.go:21", after := #[{ on := 0, ground := Ground.data }], guard := none }) (v := ?_) rfl (by kernel_rfl) (by kernel_rfl) (by kernel_rfl) (fun _ _ _ h => h) (Or.inl ⟨by kernel_rfl, ?_⟩) hHeld ?_
      rotate_left
      · intro w hSw; go_simp; try with_reducible rfl
      simp only [Act.put, List.setIfInBounds_toArray, List.set_cons_zero, List.set_cons_succ]
      refine wpAnyH_take (i := 2) (oi := { dst := some 16, op := Op.move (Operand.tmp 15), type := 4, pos := "ref.go:21", after := #[{ on := 1, ground := Ground.data }], guard := none }) (v := ?_) rfl (by kernel_rfl) (by kernel_rfl) (by kernel_rfl) (fun _ _ _ h => h) (Or.inl ⟨by kernel_rfl, ?_⟩) hHeld ?_
      rotate_left
      · intro w hSw; go_simp; try with_reducible rfl
      simp only [Act.put, List.setIfInBounds_toArray, List.set_cons_zero, List.set_cons_succ]
      refine wpAnyH_take (i := 3) (oi := { dst := some 17, op := Op.fieldAddr 25 (Operand.tmp 2) 0, type := 0, pos := "ref.go:21", after := #[{ on := 2, ground := Ground.guard }], guard := some (2, false) }) (v := ?_) rfl (by kernel_rfl) (by kernel_rfl) (by kernel_rfl) (fun _ _ _ h => h) (Or.inl ⟨by kernel_rfl, ?_⟩) hHeld ?_
      rotate_left
      · intro w hSw; go_simp; try with_reducible rfl
      simp only [Act.put, List.setIfInBounds_toArray, List.set_cons_zero, List.set_cons_succ]
      refine wpAnyH_take (i := 4) (oi := { dst := some 18, op := Op.load 3 (Operand.tmp 17), type := 3, pos := "ref.go:21", after := #[{ on := 3, ground := Ground.data }, { on := 2, ground := Ground.guard }], guard := some (2, false) }) (v := ?_) rfl (by kernel_rfl) (by kernel_rfl) (by kernel_rfl) (fun _ _ _ h => h) (Or.inl ⟨by kernel_rfl, ?_⟩) hHeld ?_
      rotate_left
      · intro w hSw; have k0 := hSw.1.box.cells.1; go_simp; try with_reducible rfl
      simp only [Act.put, List.setIfInBounds_toArray, List.set_cons_zero, List.set_cons_succ]
      refine wpAnyH_take (i := 5) (oi := { dst := some 19, op := Op.move (Operand.tmp 6), type := 3, pos := "ref.go:21", after := #[{ on := 2, ground := Ground.guard }], guard := some (2, false) }) (v := ?_) rfl (by kernel_rfl) (by kernel_rfl) (by kernel_rfl) (fun _ _ _ h => h) (Or.inl ⟨by kernel_rfl, ?_⟩) hHeld ?_
      rotate_left
      · intro w hSw; go_simp; try with_reducible rfl
      simp only [Act.put, List.setIfInBounds_toArray, List.set_cons_zero, List.set_cons_succ]
      refine wpAnyH_take (i := 6) (oi := { dst := some 20, op := Op.load 25 (Operand.tmp 2), type := 25, pos := "ref.go:21", after := #[{ on := 2, ground := Ground.guard }], guard := some (2, false) }) (v := .agg (x.cells A1 c1 A2 c2)) rfl (by kernel_rfl) (by kernel_rfl) (by kernel_rfl) (fun _ _ _ h => h) (yields_view (t := 2) x A1 A2 c1 c2 w.heap.size (by kernel_rfl) rfl (fun w h => h.1.box)) hHeld ?_
      simp only [Act.put, List.setIfInBounds_toArray, List.set_cons_zero, List.set_cons_succ]
      refine wpAnyH_ready (rs := [7]) (by kernel_rfl) (by simp) ?_
      refine AllReadyH.cons (o := { dst := some 21, op := Op.call { callee := Callee.value (Operand.func 28), args := #[Operand.tmp 20], argTypes := #[25] }, type := 3, pos := "ref.go:21", after := #[{ on := 6, ground := Ground.data }, { on := 2, ground := Ground.chain }, { on := 2, ground := Ground.guard }], guard := some (2, false) }) rfl (fun K hK => ?_) AllReadyH.nil
      go_simp
      go_wp2_with (go_at_call 28; refine (r13_First x A1 A2 c1 c2 _ hHeld.1.rep).mono ?_; rintro e V ⟨rfl, hb⟩)
      refine hK.out _ _ ⟨hHeld.1.below hb, hHeld.2.trans (hb.mono hHeld.2.size)⟩ (fun hHeld => ?_)
      clear hK K
      refine wpAnyH_ready (rs := [8]) (by kernel_rfl) (by simp) ?_
      refine AllReadyH.cons (o := { dst := some 22, op := Op.call { callee := Callee.value (Operand.func 40), args := #[Operand.tmp 18, Operand.tmp 19, Operand.tmp 21], argTypes := #[3, 3, 3] }, type := 4, pos := "ref.go:21", after := #[{ on := 4, ground := Ground.data }, { on := 5, ground := Ground.data }, { on := 7, ground := Ground.data }, { on := 7, ground := Ground.chain }, { on := 2, ground := Ground.guard }], guard := some (2, false) }) rfl (fun K hK => ?_) AllReadyH.nil
      go_simp
      go_wp2_with (go_at_call 40; refine (r03_UpTo _ _ _ _).mono ?_; rintro e V ⟨he, rfl⟩; rw [e2] at he; subst he)
      refine hK.out _ _ hHeld (fun hHeld => ?_)
      clear hK K
      refine wpAnyH_take (i := 9) (oi := { dst := some 23, op := Op.unOp UnOp.not 4 (Operand.tmp 22), type := 4, pos := "ref.go:21", after := #[{ on := 8, ground := Ground.data }, { on := 2, ground := Ground.guard }], guard := some (2, false) }) (v := ?_) rfl (by kernel_rfl) (by kernel_rfl) (by kernel_rfl) (fun _ _ _ h => h) (Or.inl ⟨by kernel_rfl, ?_⟩) hHeld ?_
      rotate_left
      · intro w hSw; go_simp; try with_reducible rfl
      simp only [Act.put, List.setIfInBounds_toArray, List.set_cons_zero, List.set_cons_succ]
      refine wpAnyH_take (i := 10) (oi := { dst := some 24, op := Op.pick (Operand.tmp 16) (Operand.const (Value.bool true)) (Operand.tmp 23), type := 4, pos := "ref.go:21", after := #[{ on := 2, ground := Ground.data }, { on := 9, ground := Ground.data }], guard := none }) (v := ?_) rfl (by kernel_rfl) (by kernel_rfl) (by kernel_rfl) (fun _ _ _ h => h) (Or.inl ⟨by kernel_rfl, ?_⟩) hHeld ?_
      rotate_left
      · intro w hSw; go_simp; try with_reducible rfl
      simp only [Act.put, List.setIfInBounds_toArray, List.set_cons_zero, List.set_cons_succ]
      refine wpAnyH_done (by kernel_rfl) ?_ _
      go_wp2
      go_ret2
      exact ⟨by simp [onceP, ho], hHeld.2⟩
    case true =>
      have ho : onceF x i = true := by simp [onceF, e1, e2]
      go_upto_region 2 with (first | (refine wpList_load_view (t := 2) x A1 A2 c1 c2 w.heap.size ?hg ?hw ?hx ?_; (case hg => exact hT.box); (case hw => rfl); (case hx => rfl)) | (go_at_call 15; refine (r17_Start x A1 A2 c1 c2 _ _ (h.below hT.b)).mono ?_; rintro e W1 ⟨he, hb1⟩; rw [eP, eE] at he; subst he; have hT1 := hT.below hb1))
      refine wp_region_held_drew (S := (fun w' => Has w w' w.heap.size x A1 c1 A2 c2 ∧ Below w.heap.size w w')) (by kernel_rfl) ⟨⟨hT1.box.below ((Below.refl _ _).drew) hT1.box.lt, h.below (hT1.b.drew)⟩, hT1.b.drew⟩ (fun hHeld => ?_)
      refine wpAnyH_take (i := 0) (oi := { dst := some 14, op := Op.move (Operand.tmp 7), type := 28, pos := "ref.go:21", after := #[], guard := none }) (v := ?_) rfl (by kernel_rfl) (by kernel_rfl) (by kernel_rfl) (fun _ _ _ h => h) (Or.inl ⟨by kernel_rfl, ?_⟩) hHeld ?_
      rotate_left
      · intro w hSw; go_simp; try with_reducible rfl
      simp only [Act.put, List.setIfInBounds_toArray, List.set_cons_zero, List.set_cons_succ]
      refine wpAnyH_take (i := 1) (oi := { dst := some 15, op := Op.binOp BinOp.neq 28 (Operand.tmp 14) (Operand.const (Value.int IntKind.i64 0)) 28, type := 4, pos := "ref.go:21", after := #[{ on := 0, ground := Ground.data }], guard := none }) (v := ?_) rfl (by kernel_rfl) (by kernel_rfl) (by kernel_rfl) (fun _ _ _ h => h) (Or.inl ⟨by kernel_rfl, ?_⟩) hHeld ?_
      rotate_left
      · intro w hSw; go_simp; try with_reducible rfl
      simp only [Act.put, List.setIfInBounds_toArray, List.set_cons_zero, List.set_cons_succ]
      refine wpAnyH_take (i := 2) (oi := { dst := some 16, op := Op.move (Operand.tmp 15), type := 4, pos := "ref.go:21", after := #[{ on := 1, ground := Ground.data }], guard := none }) (v := ?_) rfl (by kernel_rfl) (by kernel_rfl) (by kernel_rfl) (fun _ _ _ h => h) (Or.inl ⟨by kernel_rfl, ?_⟩) hHeld ?_
      rotate_left
      · intro w hSw; go_simp; try with_reducible rfl
      simp only [Act.put, List.setIfInBounds_toArray, List.set_cons_zero, List.set_cons_succ]
      refine wpAnyH_take (i := 3) (oi := { dst := some 17, op := Op.fieldAddr 25 (Operand.tmp 2) 0, type := 0, pos := "ref.go:21", after := #[{ on := 2, ground := Ground.guard }], guard := some (2, false) }) (v := ?_) rfl (by kernel_rfl) (by kernel_rfl) (by kernel_rfl) (fun _ _ _ h => h) (Or.inl ⟨by kernel_rfl, ?_⟩) hHeld ?_
      rotate_left
      · intro w hSw; go_simp; try with_reducible rfl
      simp only [Act.put, List.setIfInBounds_toArray, List.set_cons_zero, List.set_cons_succ]
      refine wpAnyH_take (i := 4) (oi := { dst := some 18, op := Op.load 3 (Operand.tmp 17), type := 3, pos := "ref.go:21", after := #[{ on := 3, ground := Ground.data }, { on := 2, ground := Ground.guard }], guard := some (2, false) }) (v := ?_) rfl (by kernel_rfl) (by kernel_rfl) (by kernel_rfl) (fun _ _ _ h => h) (Or.inl ⟨by kernel_rfl, ?_⟩) hHeld ?_
      rotate_left
      · intro w hSw; have k0 := hSw.1.box.cells.1; go_simp; try with_reducible rfl
      simp only [Act.put, List.setIfInBounds_toArray, List.set_cons_zero, List.set_cons_succ]
      refine wpAnyH_take (i := 5) (oi := { dst := some 19, op := Op.move (Operand.tmp 6), type := 3, pos := "ref.go:21", after := #[{ on := 2, ground := Ground.guard }], guard := some (2, false) }) (v := ?_) rfl (by kernel_rfl) (by kernel_rfl) (by kernel_rfl) (fun _ _ _ h => h) (Or.inl ⟨by kernel_rfl, ?_⟩) hHeld ?_
      rotate_left
      · intro w hSw; go_simp; try with_reducible rfl
      simp only [Act.put, List.setIfInBounds_toArray, List.set_cons_zero, List.set_cons_succ]
      refine wpAnyH_take (i := 6) (oi := { dst := some 20, op := Op.load 25 (Operand.tmp 2), type := 25, pos := "ref.go:21", after := #[{ on := 2, ground := Ground.guard }], guard := some (2, false) }) (v := .agg (x.cells A1 c1 A2 c2)) rfl (by kernel_rfl) (by kernel_rfl) (by kernel_rfl) (fun _ _ _ h => h) (yields_view (t := 2) x A1 A2 c1 c2 w.heap.size (by kernel_rfl) rfl (fun w h => h.1.box)) hHeld ?_
      simp only [Act.put, List.setIfInBounds_toArray, List.set_cons_zero, List.set_cons_succ]
      refine wpAnyH_ready (rs := [7]) (by kernel_rfl) (by simp) ?_
      refine AllReadyH.cons (o := { dst := some 21, op := Op.call { callee := Callee.value (Operand.func 28), args := #[Operand.tmp 20], argTypes := #[25] }, type := 3, pos := "ref.go:21", after := #[{ on := 6, ground := Ground.data }, { on := 2, ground := Ground.chain }, { on := 2, ground := Ground.guard }], guard := some (2, false) }) rfl (fun K hK => ?_) AllReadyH.nil
      go_simp
      go_wp2_with (go_at_call 28; refine (r13_First x A1 A2 c1 c2 _ hHeld.1.rep).mono ?_; rintro e V ⟨rfl, hb⟩)
      refine hK.out _ _ ⟨hHeld.1.below hb, hHeld.2.trans (hb.mono hHeld.2.size)⟩ (fun hHeld => ?_)
      clear hK K
      refine wpAnyH_ready (rs := [8]) (by kernel_rfl) (by simp) ?_
      refine AllReadyH.cons (o := { dst := some 22, op := Op.call { callee := Callee.value (Operand.func 40), args := #[Operand.tmp 18, Operand.tmp 19, Operand.tmp 21], argTypes := #[3, 3, 3] }, type := 4, pos := "ref.go:21", after := #[{ on := 4, ground := Ground.data }, { on := 5, ground := Ground.data }, { on := 7, ground := Ground.data }, { on := 7, ground := Ground.chain }, { on := 2, ground := Ground.guard }], guard := some (2, false) }) rfl (fun K hK => ?_) AllReadyH.nil
      go_simp
      go_wp2_with (go_at_call 40; refine (r03_UpTo _ _ _ _).mono ?_; rintro e V ⟨he, rfl⟩; rw [e2] at he; subst he)
      refine hK.out _ _ hHeld (fun hHeld => ?_)
      clear hK K
      refine wpAnyH_take (i := 9) (oi := { dst := some 23, op := Op.unOp UnOp.not 4 (Operand.tmp 22), type := 4, pos := "ref.go:21", after := #[{ on := 8, ground := Ground.data }, { on := 2, ground := Ground.guard }], guard := some (2, false) }) (v := ?_) rfl (by kernel_rfl) (by kernel_rfl) (by kernel_rfl) (fun _ _ _ h => h) (Or.inl ⟨by kernel_rfl, ?_⟩) hHeld ?_
      rotate_left
      · intro w hSw; go_simp; try with_reducible rfl
      simp only [Act.put, List.setIfInBounds_toArray, List.set_cons_zero, List.set_cons_succ]
      refine wpAnyH_take (i := 10) (oi := { dst := some 24, op := Op.pick (Operand.tmp 16) (Operand.const (Value.bool true)) (Operand.tmp 23), type := 4, pos := "ref.go:21", after := #[{ on := 2, ground := Ground.data }, { on := 9, ground := Ground.data }], guard := none }) (v := ?_) rfl (by kernel_rfl) (by kernel_rfl) (by kernel_rfl) (fun _ _ _ h => h) (Or.inl ⟨by kernel_rfl, ?_⟩) hHeld ?_
      rotate_left
      · intro w hSw; go_simp; try with_reducible rfl
      simp only [Act.put, List.setIfInBounds_toArray, List.set_cons_zero, List.set_cons_succ]
      refine wpAnyH_done (by kernel_rfl) ?_ _
      go_wp2_with (first | (refine wpList_load_view (t := 2) x A1 A2 c1 c2 w.heap.size ?hg ?hw ?hx ?_; (case hg => exact hHeld.1.box); (case hw => rfl); (case hx => rfl)) | (go_at_call 28; refine (r13_First x A1 A2 c1 c2 _ hHeld.1.rep).mono ?_; rintro e V9 ⟨rfl, hb9⟩; have hB9 := hHeld.2.trans (hb9.mono hHeld.2.size)))
      go_ret2
      exact ⟨by simp [onceP, ho], hB9⟩
end Go.Proofs.YtbjgfcempfpfcaaDoor
