/- Contracts of the layer rect: the program's. -/
import Derived.Test.YtbjgfcempfpfcaaL
namespace Go.Proofs.Ytbjgfcempfpfcaa
open Go.RowKit Go.Shelf

/-- A whole view read out of its box: the operation written out. -/
theorem wpList_load_view {ops : Array Oper} {rest : List Oper} {a : Act} {w : World} {Q : Exit → Act → World → Prop} {dst : Option Tmp} {ty : TypeId} {pos : String} {af : Array Edge} {t : Nat} {gd : Option (Nat × Bool)} (x : View) (A1 A2 : Option Addr) (c1 c2 B : Nat)
    (hg : VBox w B x A1 c1 A2 c2)
    (hw : Region.wanted { dst := dst, op := .load 25 (.tmp t), type := ty, pos := pos, after := af, guard := gd } (yielded ops a.tmps) = true) (hx : a.eval (.tmp t) = .pointer (some ⟨B, 0, none⟩)) (h : wpList Try.prog ops Q rest (a.put dst (.agg (x.cells A1 c1 A2 c2))) w) :
    wpList Try.prog ops Q ({ dst := dst, op := .load 25 (.tmp t), type := ty, pos := pos, after := af, guard := gd } :: rest) a w :=
  wpList_load_row_g hw 25 (.tmp t) rfl B hx 25 (x.cells A1 c1 A2 c2) (0, 0) _ hg Try.underlying25 rfl (view_size _ _ _ _ _) h

/-- What the closure of better says. -/
def btV (x : View) (n : Int) : Bool := n != x.id && (n == place n && (decide (x.pred < 0) || inn x.pred n x.id))
theorem right_other {x : View} (h : rightV x = true) : other x.id x.pred = true := by
  simp only [rightV, headOk, Bool.and_eq_true] at h
  exact h.1.1.2
theorem right_pred {x : View} (h : rightV x = true) : x.pred = -1 ∨ 0 ≤ x.pred := by
  have := right_other h
  simp only [other, Bool.or_eq_true, beq_iff_eq, Bool.and_eq_true, isPl_iff] at this
  rcases this with h | h
  · exact .inl h
  · exact .inr h.1.1
theorem bt_of_right {x : View} (h : rightV x = true) (n : Int) : betterV x n = btV x n := by
  have hp := right_pred h
  have h1 : (x.pred == -1) = decide (x.pred < 0) := by rw [Bool.eq_iff_iff]; simp; omega
  rw [betterV, btV, h, h1, isPl_place]
  cases (n != x.id) <;> cases isPl n <;> rfl
theorem withPred_same {x : View} {p : Int} (h : x.pred = p) : x.withPred p = x := by subst h; rfl

theorem bt_cases (x : View) (n : Int) (P : Prop)
    (c1 : (n != x.id) = false → Hid (btV x n = false) → P)
    (c2 : (n != x.id) = true → (n == place n) = false → Hid (btV x n = false) → P)
    (c3 : (n != x.id) = true → (n == place n) = true → decide (x.pred < 0) = true → Hid (btV x n = true) → P)
    (c4 : (n != x.id) = true → (n == place n) = true → decide (x.pred < 0) = false → Hid (btV x n = inn x.pred n x.id) → P) : P := by
  cases e1 : (n != x.id)
  case false => exact c1 e1 (Lib.hid (by simp only [btV, e1, Bool.false_and, Bool.and_false, Bool.true_and, Bool.and_true, Bool.true_or, Bool.false_or]))
  case true =>
    cases e2 : (n == place n)
    case false => exact c2 e1 e2 (Lib.hid (by simp only [btV, e1, e2, Bool.false_and, Bool.and_false, Bool.true_and, Bool.and_true, Bool.true_or, Bool.false_or]))
    case true =>
      cases e3 : decide (x.pred < 0)
      case true => exact c3 e1 e2 e3 (Lib.hid (by simp only [btV, e1, e2, e3, Bool.false_and, Bool.and_false, Bool.true_and, Bool.and_true, Bool.true_or, Bool.false_or]))
      case false =>
        exact c4 e1 e2 e3 (Lib.hid (by simp only [btV, e1, e2, e3, Bool.false_and, Bool.and_false, Bool.true_and, Bool.and_true, Bool.true_or, Bool.false_or]))
theorem asks2_cases (x : View) (P : Prop)
    (c1 : decide (x.pred < 0) = true → Hid (askP x = 0 ∧ asksV x = false) → P)
    (c2 : decide (x.pred < 0) = false → rightV x = false → Hid (askP x = 0 ∧ asksV x = false) → P)
    (c3 : decide (x.pred < 0) = false → rightV x = true → Hid (askP x = x.pred ∧ asksV x = true) → P) : P := by
  cases e1 : decide (x.pred < 0)
  case true => exact c1 e1 (Lib.hid (by simp [askP, asksV, nonneg_not x.pred, e1]))
  case false =>
    cases e2 : rightV x
    case false => exact c2 e1 e2 (Lib.hid (by simp [askP, asksV, nonneg_not x.pred, e1, e2]))
    case true =>
      exact c3 e1 e2 (Lib.hid (by simp [askP, asksV, nonneg_not x.pred, e1, e2]))

theorem owns2_cases (x : View) (k : Int) (P : Prop) (c1 : asksV x = false → Hid (ownsV x k = false) → P) (c2 : asksV x = true → askP x = x.pred → Hid (ownsV x k = upTo x.pred k x.id) → P) : P := by
  cases e : asksV x with
  | false => exact c1 e (Lib.hid (by have h : (rightV x && decide (0 ≤ x.pred)) = false := e; rw [ownsV, h]; rfl))
  | true => exact c2 e (by rw [askP, e]; rfl) (Lib.hid (by have h : (rightV x && decide (0 ≤ x.pred)) = true := e; rw [ownsV, h]; rfl))
theorem gone2_cases (x : View) (d : Int) (P : Prop) (c1 : asksV x = false → Hid (goneV x d = x) → P) (c2 : asksV x = true → (askP x == d) = false → Hid (goneV x d = x) → P)
    (c3 : asksV x = true → (askP x == d) = true → decide (d ∈ x.base) = true → Hid (goneV x d = x) → P) (c4 : asksV x = true → (askP x == d) = true → decide (d ∈ x.base) = false → Hid (goneV x d = x.withPred (-1)) → P) : P := by
  cases e : asksV x with
  | false =>
    refine c1 e (Lib.hid ?_)
    unfold goneV
    split
    · rename_i h
      simp only [Bool.and_eq_true] at h
      have hp := right_pred h.1
      have : x.pred = -1 := by
        rcases hp with hp | hp
        · exact hp
        · rw [asksV, h.1] at e; simp at e; omega
      exact withPred_same this
    · rfl
  | true =>
    have h1 : rightV x = true := by simp only [asksV, Bool.and_eq_true] at e; exact e.1
    have h2 : askP x = x.pred := by rw [askP, e]; rfl
    cases e2 : askP x == d with
    | false => exact c2 e e2 (Lib.hid (by rw [h2] at e2; simp [goneV, e2]))
    | true =>
      cases e3 : decide (d ∈ x.base) with
      | true => exact c3 e e2 e3 (Lib.hid (by simp [goneV, e3]))
      | false => exact c4 e e2 e3 (Lib.hid (by rw [h2] at e2; simp [goneV, h1, e2, e3]))

set_option maxRecDepth 100000 in
set_option maxHeartbeats 1000000 in
theorem rect_better (x : View) (A1 A2 : Option Addr) (c1 c2 : Nat) (w : World) :
    Calls Try.prog 60 #[x.v A1 c1 A2 c2] w fun e w' => e = .returned (.func (.func 97) #[] #[.pointer (some ⟨w.heap.size, 0, none⟩)]) ∧ w.alloc (.cells (x.cells A1 c1 A2 c2) 25) = w' := by
  unfold View.v
  go_enter Try.func60, Try.ntmps60
  go_wp2
  go_ret
  exact ⟨rfl, rfl⟩

set_option maxRecDepth 100000 in
set_option maxHeartbeats 1000000 in
theorem rect_better1 (x : View) (A1 A2 : Option Addr) (c1 c2 : Nat) (B : Nat) (n : Int) (w : World) (hv : VBox w B x A1 c1 A2 c2) :
    Calls Try.prog 97 #[.int .i64 n, .pointer (some ⟨B, 0, none⟩)] w fun e w' => e = .returned (.bool (btV x n)) ∧ w = w' := by
  have q0 := hv.cells.1
  have q3 := hv.cells.2.2.2.1
  clear hv
  go_enter Try.func97, Try.ntmps97
  refine bt_cases x n _ ?_ ?_ ?_ ?_ <;> intros <;> rename_i HR
  all_goals (go_wp2_with (first | (go_at_call 98; refine (arc_Place _ _).mono ?_; rintro e w' ⟨rfl, rfl⟩) | (go_at_call 99; refine (arc_In _ _ _ _).mono ?_; rintro e w' ⟨rfl, rfl⟩)))
  all_goals (go_ret; exact ⟨ret_bool HR.out.symm, rfl⟩)

set_option maxRecDepth 100000 in
set_option maxHeartbeats 1000000 in
theorem rect_Asks (x : View) (A1 A2 : Option Addr) (c1 c2 : Nat) (w : World) (h : RepV w x A1 c1 A2 c2) :
    Calls Try.prog 18 #[x.v A1 c1 A2 c2] w fun e w' => e = .returned (.tuple #[.int .i64 (askP x), .bool (asksV x)]) ∧ Below w.heap.size w w' := by
  unfold View.v
  go_enter Try.func18, Try.ntmps18
  go_upto_region 1 with (fail)
  refine name_world fun W0 hW0 => ?_
  have hT := one_start hW0
  clear hW0
  have q3 := hT.box.cells.2.2.2.1
  refine asks2_cases x _ ?_ ?_ ?_ <;> intros <;> rename_i HR
  · go_wp2
    go_ret2
    exact ⟨by rw [HR.out.1, HR.out.2]; rfl, hT.b⟩
  all_goals (go_wp2_with (first | (refine wpList_load_view (t := 1) x A1 A2 c1 c2 w.heap.size ?hg ?hw ?hx ?_; (case hg => exact hT.box); (case hw => rfl); (case hx => rfl)) | (go_at_call 43; refine (view_Right x A1 A2 c1 c2 _ (h.base.below hT.b) (h.list.below hT.b)).mono ?_; rintro e W1 ⟨rfl, hb1⟩; have hT1 := hT.below hb1; have p3 := hT1.box.cells.2.2.2.1; clear q3)))
  all_goals (go_ret2; exact ⟨by rw [HR.out.1, HR.out.2]; rfl, hT1.b⟩)

set_option maxRecDepth 100000 in
set_option maxHeartbeats 1000000 in
theorem rect_Owns (x : View) (A1 A2 : Option Addr) (c1 c2 : Nat) (w : World) (h : RepV w x A1 c1 A2 c2) (k : Int) :
    Calls Try.prog 25 #[x.v A1 c1 A2 c2, .int .i64 k] w fun e w' => e = .returned (.bool (ownsV x k)) ∧ Below w.heap.size w w' := by
  unfold View.v
  go_enter Try.func25, Try.ntmps25
  go_upto_region 1 with (fail)
  refine name_world fun W0 hW0 => ?_
  have hT := one_start hW0
  clear hW0
  refine owns2_cases x k _ ?_ ?_ <;> intros <;> rename_i HR
  all_goals (go_wp2_with (first | (refine wpList_load_view (t := 2) x A1 A2 c1 c2 w.heap.size ?hg ?hw ?hx ?_; (case hg => exact hT.box); (case hw => rfl); (case hx => rfl)) | (go_at_call 18; refine (rect_Asks x A1 A2 c1 c2 _ ⟨h.base.below hT.b, h.list.below hT.b⟩).mono ?_; rintro e W1 ⟨rfl, hb1⟩; have hT1 := hT.below hb1; have p0 := hT1.box.cells.1) | (go_at_call 63; refine (arc_UpTo _ _ _ _).mono ?_; rintro e w' ⟨rfl, rfl⟩)))
  all_goals (go_ret; exact ⟨ret_bool HR.out.symm, hT1.b⟩)

set_option maxRecDepth 100000 in
set_option maxHeartbeats 1000000 in
theorem rect_Better (x : View) (A1 A2 : Option Addr) (c1 c2 : Nat) (w : World) (h : RepV w x A1 c1 A2 c2) (k : Int) :
    Calls Try.prog 20 #[x.v A1 c1 A2 c2, .int .i64 k] w fun e w' => e = .returned (.bool (betterV x k)) ∧ Below w.heap.size w w' := by
  unfold View.v
  go_enter Try.func20, Try.ntmps20
  go_upto_region 1 with (fail)
  refine name_world fun W0 hW0 => ?_
  have hT := one_start hW0
  clear hW0
  cases hr : rightV x
  · have HR := Lib.hid (show betterV x k = false by rw [betterV, hr]; rfl)
    go_wp2_with (first | (refine wpList_load_view (t := 2) x A1 A2 c1 c2 w.heap.size ?hg ?hw ?hx ?_; (case hg => exact hT.box); (case hw => rfl); (case hx => rfl)) | (go_at_call 43; refine (view_Right x A1 A2 c1 c2 _ (h.base.below hT.b) (h.list.below hT.b)).mono ?_; rintro e W1 ⟨rfl, hb1⟩; have hT1 := hT.below hb1))
    go_ret
    exact ⟨ret_bool HR.out.symm, hT1.b⟩
  · have HR := Lib.hid (bt_of_right hr k)
    go_wp2_with (first | (refine wpList_load_view (t := 2) x A1 A2 c1 c2 w.heap.size ?hg ?hw ?hx ?_; (case hg => exact hT.box); (case hw => rfl); (case hx => rfl)) | (go_at_call 43; refine (view_Right x A1 A2 c1 c2 _ (h.base.below hT.b) (h.list.below hT.b)).mono ?_; rintro e W1 ⟨rfl, hb1⟩; have hT1 := hT.below hb1) | (refine wpList_load_view (t := 2) x A1 A2 c1 c2 w.heap.size ?hg ?hw ?hx ?_; (case hg => exact hT1.box); (case hw => rfl); (case hx => rfl)) | (go_at_call 60; refine (rect_better x A1 A2 c1 c2 _).mono ?_; rintro e w' ⟨rfl, rfl⟩) | (go_at_call 97; refine (rect_better1 x A1 A2 c1 c2 _ k _ (VBox.new _ _ _ _ _ _)).mono ?_; rintro e w' ⟨rfl, rfl⟩))
    go_ret
    exact ⟨ret_bool HR.out.symm, hT1.b.alloc hT1.b.size _⟩
end Go.Proofs.Ytbjgfcempfpfcaa
