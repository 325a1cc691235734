/- Contracts of the layer finger: a finger that is set. -/
import Derived.Test.YtbjgfcempfpfcaaDoorCB
namespace Go.Proofs.YtbjgfcempfpfcaaDoor
open Go.RowKit Go.Shelf

def setOk (x : View) (i n : Int) : Bool := knownF x i && isPl n
def setF (x : View) (i n : Int) : View := if setOk x i n then x.withF i.toNat (otherF x n) else x
def setE (x : View) (i n : Int) : Int := if setOk x i n then 0 else 2
/-- A view and a number handed back. -/
def RetVE (w0 : World) (x : View) (n : Int) (e : Ending) (w' : World) : Prop := ∃ A1 c1 A2 c2, e = .returned (.tuple #[x.v A1 c1 A2 c2, .int .i64 n]) ∧ RepV w' x A1 c1 A2 c2 ∧ Below w0.heap.size w0 w' ∧ (∀ b off, A1 = some ⟨b, off, none⟩ → w0.heap.size ≤ b) ∧ ∀ b off, A2 = some ⟨b, off, none⟩ → w0.heap.size ≤ b
theorem set_no {x : View} {i n : Int} (h : setOk x i n = false) : setF x i n = x ∧ setE x i n = 2 := by simp [setF, setE, h]
theorem set_yes {x : View} {k : Nat} {n : Int} (h : setOk x k n = true) : setF x k n = x.withF k (otherF x n) ∧ setE x k n = 0 := by simp [setF, setE, h]
theorem known_lt {x : View} {i : Int} (h : knownF x i = true) : rightV x = true ∧ ∃ k : Nat, i = k ∧ k < 16 := by
  simp only [knownF, Bool.and_eq_true, decide_eq_true_eq] at h
  exact ⟨h.2.2, i.toNat, by omega, by omega⟩
theorem RepV.withF {w : World} {x : View} {A1 A2 : Option Addr} {c1 c2 : Nat} (h : RepV w x A1 c1 A2 c2) (k : Nat) (v : Int) : RepV w (x.withF k v) A1 c1 A2 c2 := ⟨h.base, h.list⟩
theorem withF_twice (x : View) (k : Nat) (a b : Int) : (x.withF k a).withF k b = x.withF k b := by
  simp only [View.withF, View.mk.injEq, true_and]
  funext j
  by_cases h : j = k <;> simp [h]

set_option maxRecDepth 100000 in
set_option maxHeartbeats 1000000 in
theorem finger_Set (x : View) (A1 A2 : Option Addr) (c1 c2 : Nat) (i n : Int) (w : World) (h : RepV w x A1 c1 A2 c2) :
    Calls Tryd.prog 18 #[x.v A1 c1 A2 c2, .int .i64 i, .int .i64 n] w (RetVE w (setF x i n) (setE x i n)) := by
  unfold View.v
  go_enter Tryd.func18, Tryd.ntmps18
  go_upto_region 1 with (fail)
  refine name_world fun W0 hW0 => ?_
  have hT := two_start hW0
  clear hW0
  refine wp_region_lit ?_
  (refine wpList_load_view (t := 3) x A1 A2 c1 c2 w.heap.size ?hg ?hw ?hx ?_; (case hg => exact hT.box); (case hw => rfl); (case hx => rfl))
  go_upto_region 2 with (first | (go_at_call 53; refine (view_Own x A1 A2 c1 c2 _ ⟨h.base.below hT.b, h.list.below hT.b⟩).mono ?_; rintro e W1 ⟨E1, f1, E2, f2, rfl, hr1, hb1, hf1, hf2⟩; have hT1 := hT.below (Nat.le_refl _) (Nat.le_succ _) hb1) | (refine wpList_store_row rfl 25 (.tmp 3) (.tmp 9) rfl w.heap.size (x.cells E1 f1 E2 f2) rfl rfl 25 (x.cells A1 c1 A2 c2) hT1.box (view_size _ _ _ _ _) rfl (View.oneCell _ _ _ _ _) ?_))
  refine name_world fun W2 hW2 => ?_
  have z1 := hb1.size
  have z2 := hT.res.lt
  have hT2 : Two w W2 w.heap.size (w.heap.size + 1) x View.zero E1 f1 E2 f2 none 0 none 0 := by rw [← hW2]; exact hT1.setRow (Nat.le_refl _) (Nat.succ_ne_self _)
  have hR2 : RepV W2 x E1 f1 E2 f2 := by rw [← hW2]; exact hr1.row _ _ (fun b off e => by have := hf1 b off e; omega) (fun b off e => by have := hf2 b off e; omega)
  have g1 : ∀ b off, E1 = some ⟨b, off, none⟩ → w.heap.size + 1 < b := fun b off e => by have := hf1 b off e; omega
  have g2 : ∀ b off, E2 = some ⟨b, off, none⟩ → w.heap.size + 1 < b := fun b off e => by have := hf2 b off e; omega
  have HG := Lib.hid (And.intro g1 g2)
  clear hW2 hT1 hT hb1 hr1 hf1 hf2 g1 g2 z1 z2
  cases e1 : knownF x i
  case false =>
    have HR := Lib.hid (set_no (n := n) (show setOk x i n = false by simp [setOk, e1]))
    go_upto_region 3 with (first | (refine wpList_load_view (t := 3) x E1 E2 f1 f2 w.heap.size ?hg ?hw ?hx ?_; (case hg => exact hT2.box); (case hw => rfl); (case hx => rfl)) | (go_at_call 49; refine (finger_known x E1 E2 f1 f2 _ _ hR2).mono ?_; rintro e W3 ⟨he, hb3⟩; rw [e1] at he; subst he; have hT3 := hT2.below (Nat.le_refl _) (Nat.le_succ _) hb3; have hR3 := hR2.below hb3))
    refine wp_region_lit ?_
    (refine wpList_load_view (t := 3) x E1 E2 f1 f2 w.heap.size ?hg ?hw ?hx ?_; (case hg => exact hT3.box); (case hw => rfl); (case hx => rfl))
    (refine wpList_store_row rfl 25 (.tmp 6) (.tmp 19) rfl (w.heap.size + 1) (x.cells E1 f1 E2 f2) rfl rfl 25 (View.zero.cells none 0 none 0) hT3.res (view_size _ _ _ _ _) rfl (View.oneCell _ _ _ _ _) ?_)
    go_wp2
    refine bodyPost_ret (results_cell_tmp rfl _ _ (w.heap.size + 1) 25 (x.cells E1 f1 E2 f2) (0, 0) _ rfl (hT3.res.setRow x E1 E2 f1 f2) Tryd.underlying25 rfl (view_size _ _ _ _ _)) rfl ?_
    rw [HR.out.1, HR.out.2]
    exact ⟨E1, f1, E2, f2, rfl, hR3.row (w.heap.size + 1) _ (fun b off e => by have := HG.out.1 b off e; omega) (fun b off e => by have := HG.out.2 b off e; omega), below_setRow hT3.b (Nat.le_succ _) _, fun b off e => by have := HG.out.1 b off e; omega, fun b off e => by have := HG.out.2 b off e; omega⟩
  case true =>
    cases e2 : isPl n
    case false =>
      have HR := Lib.hid (set_no (show setOk x i n = false by simp [setOk, e2]))
      go_upto_region 3 with (first | (refine wpList_load_view (t := 3) x E1 E2 f1 f2 w.heap.size ?hg ?hw ?hx ?_; (case hg => exact hT2.box); (case hw => rfl); (case hx => rfl)) | (go_at_call 49; refine (finger_known x E1 E2 f1 f2 _ _ hR2).mono ?_; rintro e W3 ⟨he, hb3⟩; rw [e1] at he; subst he; have hT3 := hT2.below (Nat.le_refl _) (Nat.le_succ _) hb3; have hR3 := hR2.below hb3) | (go_at_call 54; refine (finger_place _ _).mono ?_; rintro e w' ⟨he, rfl⟩; rw [e2] at he; subst he))
      refine wp_region_lit ?_
      (refine wpList_load_view (t := 3) x E1 E2 f1 f2 w.heap.size ?hg ?hw ?hx ?_; (case hg => exact hT3.box); (case hw => rfl); (case hx => rfl))
      (refine wpList_store_row rfl 25 (.tmp 6) (.tmp 19) rfl (w.heap.size + 1) (x.cells E1 f1 E2 f2) rfl rfl 25 (View.zero.cells none 0 none 0) hT3.res (view_size _ _ _ _ _) rfl (View.oneCell _ _ _ _ _) ?_)
      go_wp2
      refine bodyPost_ret (results_cell_tmp rfl _ _ (w.heap.size + 1) 25 (x.cells E1 f1 E2 f2) (0, 0) _ rfl (hT3.res.setRow x E1 E2 f1 f2) Tryd.underlying25 rfl (view_size _ _ _ _ _)) rfl ?_
      rw [HR.out.1, HR.out.2]
      exact ⟨E1, f1, E2, f2, rfl, hR3.row (w.heap.size + 1) _ (fun b off e => by have := HG.out.1 b off e; omega) (fun b off e => by have := HG.out.2 b off e; omega), below_setRow hT3.b (Nat.le_succ _) _, fun b off e => by have := HG.out.1 b off e; omega, fun b off e => by have := HG.out.2 b off e; omega⟩
    case true =>
      obtain ⟨hr, k, rfl, hk⟩ := known_lt e1
      have HR := Lib.hid (set_yes (show setOk x k n = true by simp [setOk, e1, e2]))
      go_upto_region 4 with (first | (refine wpList_load_view (t := 3) x E1 E2 f1 f2 w.heap.size ?hg ?hw ?hx ?_; (case hg => exact hT2.box); (case hw => rfl); (case hx => rfl)) | (go_at_call 49; refine (finger_known x E1 E2 f1 f2 _ _ hR2).mono ?_; rintro e W3 ⟨he, hb3⟩; rw [e1] at he; subst he; have hT3 := hT2.below (Nat.le_refl _) (Nat.le_succ _) hb3; have hR3 := hR2.below hb3) | (go_at_call 54; refine (finger_place _ _).mono ?_; rintro e w' ⟨he, rfl⟩; rw [e2] at he; subst he))
      go_upto_region 5 with (first | (refine wpList_load_view (t := 3) x E1 E2 f1 f2 w.heap.size ?hg ?hw ?hx ?_; (case hg => exact hT3.box); (case hw => rfl); (case hx => rfl)) | (go_at_call 55; refine (finger_other x E1 E2 f1 f2 n _ hR3).mono ?_; rintro e W4 ⟨rfl, hb4⟩; have hT4 := hT3.below (Nat.le_refl _) (Nat.le_succ _) hb4; have hR4 := hR3.below hb4; have p1 := hT4.box.finger hk; have p2 := hT4.box.frozen))
      refine name_world fun W5 hW5 => ?_
      have hT5 : Two w W5 w.heap.size (w.heap.size + 1) (x.withF k (otherF x n)) View.zero E1 f1 E2 f2 none 0 none 0 := by rw [← hW5]; exact hT4.setF (Nat.le_refl _) (Nat.succ_ne_self _) hk _
      have hR5 : RepV W5 (x.withF k (otherF x n)) E1 f1 E2 f2 := by rw [← hW5]; exact (hR4.withF k _).set _ _ (fun b off e => by have := HG.out.1 b off e; show b ≠ w.heap.size; omega) (fun b off e => by have := HG.out.2 b off e; show b ≠ w.heap.size; omega)
      clear hW5
      refine wp_region_lit ?_
      (refine wpList_load_view (t := 3) (x.withF k (otherF x n)) E1 E2 f1 f2 w.heap.size ?hg ?hw ?hx ?_; (case hg => exact hT5.box); (case hw => rfl); (case hx => rfl))
      (refine wpList_store_row rfl 25 (.tmp 6) (.tmp 26) rfl (w.heap.size + 1) ((x.withF k (otherF x n)).cells E1 f1 E2 f2) rfl rfl 25 (View.zero.cells none 0 none 0) hT5.res (view_size _ _ _ _ _) rfl (View.oneCell _ _ _ _ _) ?_)
      go_wp2
      refine bodyPost_ret (results_cell_tmp rfl _ _ (w.heap.size + 1) 25 ((x.withF k (otherF x n)).cells E1 f1 E2 f2) (0, 0) _ rfl (hT5.res.setRow (x.withF k (otherF x n)) E1 E2 f1 f2) Tryd.underlying25 rfl (view_size _ _ _ _ _)) rfl ?_
      rw [HR.out.1, HR.out.2]
      exact ⟨E1, f1, E2, f2, rfl, hR5.row (w.heap.size + 1) _ (fun b off e => by have := HG.out.1 b off e; omega) (fun b off e => by have := HG.out.2 b off e; omega), below_setRow hT5.b (Nat.le_succ _) _, fun b off e => by have := HG.out.1 b off e; omega, fun b off e => by have := HG.out.2 b off e; omega⟩

set_option maxRecDepth 100000 in
set_option maxHeartbeats 1000000 in
theorem r17_Set (x : View) (A1 A2 : Option Addr) (c1 c2 : Nat) (i n : Int) (w : World) (h : RepV w x A1 c1 A2 c2) :
    Calls Tryd.prog 19 #[x.v A1 c1 A2 c2, .int .i64 i, .int .i64 n] w (RetVE w (setF x i n) (setE x i n)) := by
  unfold View.v
  go_enter Tryd.func19, Tryd.ntmps19
  go_upto_region 1 with (fail)
  refine name_world fun W0 hW0 => ?_
  have hT := two_start hW0
  clear hW0
  refine wp_region_lit ?_
  (refine wpList_load_view (t := 3) x A1 A2 c1 c2 w.heap.size ?hg ?hw ?hx ?_; (case hg => exact hT.box); (case hw => rfl); (case hx => rfl))
  go_upto_region 2 with (first | (go_at_call 43; refine (r13_Own x A1 A2 c1 c2 _ ⟨h.base.below hT.b, h.list.below hT.b⟩).mono ?_; rintro e W1 ⟨E1, f1, E2, f2, rfl, hr1, hb1, hf1, hf2⟩; have hT1 := hT.below (Nat.le_refl _) (Nat.le_succ _) hb1) | (refine wpList_store_row rfl 25 (.tmp 3) (.tmp 11) rfl w.heap.size (x.cells E1 f1 E2 f2) rfl rfl 25 (x.cells A1 c1 A2 c2) hT1.box (view_size _ _ _ _ _) rfl (View.oneCell _ _ _ _ _) ?_))
  refine name_world fun W2 hW2 => ?_
  have z1 := hb1.size
  have z2 := hT.res.lt
  have hT2 : Two w W2 w.heap.size (w.heap.size + 1) x View.zero E1 f1 E2 f2 none 0 none 0 := by rw [← hW2]; exact hT1.setRow (Nat.le_refl _) (Nat.succ_ne_self _)
  have hR2 : RepV W2 x E1 f1 E2 f2 := by rw [← hW2]; exact hr1.row _ _ (fun b off e => by have := hf1 b off e; omega) (fun b off e => by have := hf2 b off e; omega)
  have g1 : ∀ b off, E1 = some ⟨b, off, none⟩ → w.heap.size + 1 < b := fun b off e => by have := hf1 b off e; omega
  have g2 : ∀ b off, E2 = some ⟨b, off, none⟩ → w.heap.size + 1 < b := fun b off e => by have := hf2 b off e; omega
  have HG := Lib.hid (And.intro g1 g2)
  clear hW2 hT1 hT hb1 hr1 hf1 hf2 g1 g2 z1 z2
  cases e1 : knownF x i
  case false =>
    have eP : startP x i = 0 := by simp [startP, e1]
    have eE : startE x i = 2 := by simp [startE, e1]
    have HR := Lib.hid (set_no (n := n) (show setOk x i n = false by simp [setOk, e1]))
    go_upto_region 4 with (first | (refine wpList_load_view (t := 3) x E1 E2 f1 f2 w.heap.size ?hg ?hw ?hx ?_; (case hg => exact hT2.box); (case hw => rfl); (case hx => rfl)) | (go_at_call 15; refine (r17_Start x E1 E2 f1 f2 _ _ hR2).mono ?_; rintro e W3 ⟨he, hb3⟩; rw [eP, eE] at he; subst he; have hT3 := hT2.below (Nat.le_refl _) (Nat.le_succ _) hb3; have hR3 := hR2.below hb3))
    refine wp_region_lit ?_
    (refine wpList_load_view (t := 3) x E1 E2 f1 f2 w.heap.size ?hg ?hw ?hx ?_; (case hg => exact hT3.box); (case hw => rfl); (case hx => rfl))
    (refine wpList_store_row rfl 25 (.tmp 6) (.tmp 28) rfl (w.heap.size + 1) (x.cells E1 f1 E2 f2) rfl rfl 25 (View.zero.cells none 0 none 0) hT3.res (view_size _ _ _ _ _) rfl (View.oneCell _ _ _ _ _) ?_)
    go_wp2
    refine bodyPost_ret (results_cell_tmp rfl _ _ (w.heap.size + 1) 25 (x.cells E1 f1 E2 f2) (0, 0) _ rfl (hT3.res.setRow x E1 E2 f1 f2) Tryd.underlying25 rfl (view_size _ _ _ _ _)) rfl ?_
    rw [HR.out.1, HR.out.2]
    exact ⟨E1, f1, E2, f2, rfl, hR3.row (w.heap.size + 1) _ (fun b off e => by have := HG.out.1 b off e; omega) (fun b off e => by have := HG.out.2 b off e; omega), below_setRow hT3.b (Nat.le_succ _) _, fun b off e => by have := HG.out.1 b off e; omega, fun b off e => by have := HG.out.2 b off e; omega⟩
  case true =>
    have eP : startP x i = startF x.id i := by simp [startP, e1]
    have eE : startE x i = 0 := by simp [startE, e1]
    cases e2 : decide (n < 0)
    case true =>
      have HR := Lib.hid (set_no (show setOk x i n = false by simp at e2; simp [setOk, isPl]; omega))
      go_upto_region 4 with (first | (refine wpList_load_view (t := 3) x E1 E2 f1 f2 w.heap.size ?hg ?hw ?hx ?_; (case hg => exact hT2.box); (case hw => rfl); (case hx => rfl)) | (go_at_call 15; refine (r17_Start x E1 E2 f1 f2 _ _ hR2).mono ?_; rintro e W3 ⟨he, hb3⟩; rw [eP, eE] at he; subst he; have hT3 := hT2.below (Nat.le_refl _) (Nat.le_succ _) hb3; have hR3 := hR2.below hb3))
      refine wp_region_lit ?_
      (refine wpList_load_view (t := 3) x E1 E2 f1 f2 w.heap.size ?hg ?hw ?hx ?_; (case hg => exact hT3.box); (case hw => rfl); (case hx => rfl))
      (refine wpList_store_row rfl 25 (.tmp 6) (.tmp 28) rfl (w.heap.size + 1) (x.cells E1 f1 E2 f2) rfl rfl 25 (View.zero.cells none 0 none 0) hT3.res (view_size _ _ _ _ _) rfl (View.oneCell _ _ _ _ _) ?_)
      go_wp2
      refine bodyPost_ret (results_cell_tmp rfl _ _ (w.heap.size + 1) 25 (x.cells E1 f1 E2 f2) (0, 0) _ rfl (hT3.res.setRow x E1 E2 f1 f2) Tryd.underlying25 rfl (view_size _ _ _ _ _)) rfl ?_
      rw [HR.out.1, HR.out.2]
      exact ⟨E1, f1, E2, f2, rfl, hR3.row (w.heap.size + 1) _ (fun b off e => by have := HG.out.1 b off e; omega) (fun b off e => by have := HG.out.2 b off e; omega), below_setRow hT3.b (Nat.le_succ _) _, fun b off e => by have := HG.out.1 b off e; omega, fun b off e => by have := HG.out.2 b off e; omega⟩
    case false =>
      cases e3 : decide (65536 ≤ n)
      case true =>
        have HR := Lib.hid (set_no (show setOk x i n = false by simp at e3; simp [setOk, isPl]; omega))
        go_upto_region 4 with (first | (refine wpList_load_view (t := 3) x E1 E2 f1 f2 w.heap.size ?hg ?hw ?hx ?_; (case hg => exact hT2.box); (case hw => rfl); (case hx => rfl)) | (go_at_call 15; refine (r17_Start x E1 E2 f1 f2 _ _ hR2).mono ?_; rintro e W3 ⟨he, hb3⟩; rw [eP, eE] at he; subst he; have hT3 := hT2.below (Nat.le_refl _) (Nat.le_succ _) hb3; have hR3 := hR2.below hb3))
        refine wp_region_lit ?_
        (refine wpList_load_view (t := 3) x E1 E2 f1 f2 w.heap.size ?hg ?hw ?hx ?_; (case hg => exact hT3.box); (case hw => rfl); (case hx => rfl))
        (refine wpList_store_row rfl 25 (.tmp 6) (.tmp 28) rfl (w.heap.size + 1) (x.cells E1 f1 E2 f2) rfl rfl 25 (View.zero.cells none 0 none 0) hT3.res (view_size _ _ _ _ _) rfl (View.oneCell _ _ _ _ _) ?_)
        go_wp2
        refine bodyPost_ret (results_cell_tmp rfl _ _ (w.heap.size + 1) 25 (x.cells E1 f1 E2 f2) (0, 0) _ rfl (hT3.res.setRow x E1 E2 f1 f2) Tryd.underlying25 rfl (view_size _ _ _ _ _)) rfl ?_
        rw [HR.out.1, HR.out.2]
        exact ⟨E1, f1, E2, f2, rfl, hR3.row (w.heap.size + 1) _ (fun b off e => by have := HG.out.1 b off e; omega) (fun b off e => by have := HG.out.2 b off e; omega), below_setRow hT3.b (Nat.le_succ _) _, fun b off e => by have := HG.out.1 b off e; omega, fun b off e => by have := HG.out.2 b off e; omega⟩
      case false =>
        obtain ⟨hr, k, rfl, hk⟩ := known_lt e1
        have HR := Lib.hid (set_yes (show setOk x k n = true by simp at e2 e3; simp [setOk, isPl, e1]; omega))
        go_upto_region 5 with (first | (refine wpList_load_view (t := 3) x E1 E2 f1 f2 w.heap.size ?hg ?hw ?hx ?_; (case hg => exact hT2.box); (case hw => rfl); (case hx => rfl)) | (go_at_call 15; refine (r17_Start x E1 E2 f1 f2 _ _ hR2).mono ?_; rintro e W3 ⟨he, hb3⟩; rw [eP, eE] at he; subst he; have hT3 := hT2.below (Nat.le_refl _) (Nat.le_succ _) hb3; have hR3 := hR2.below hb3))
        have p1 := hT3.box.finger hk
        have p2 := hT3.box.frozen
        go_upto_region 6 with (fail)
        refine name_world fun W5 hW5 => ?_
        have hT5 : Two w W5 w.heap.size (w.heap.size + 1) (x.withF k n) View.zero E1 f1 E2 f2 none 0 none 0 := by rw [← hW5]; exact hT3.setF (Nat.le_refl _) (Nat.succ_ne_self _) hk _
        have hR5 : RepV W5 (x.withF k n) E1 f1 E2 f2 := by rw [← hW5]; exact (hR3.withF k _).set _ _ (fun b off e => by have := HG.out.1 b off e; show b ≠ w.heap.size; omega) (fun b off e => by have := HG.out.2 b off e; show b ≠ w.heap.size; omega)
        clear hW5 p1 p2 hT3 hR3
        have q0 : W5.cell? ⟨w.heap.size, 0, none⟩ = some (.int .i64 x.id) := hT5.box.cells.1
        cases e4 : (n == x.id)
        case false =>
          have eo : otherF x n = n := by simp [otherF, e4]
          rw [eo] at HR
          go_upto_region 8 with (fail)
          refine wp_region_lit ?_
          (refine wpList_load_view (t := 3) (x.withF k n) E1 E2 f1 f2 w.heap.size ?hg ?hw ?hx ?_; (case hg => exact hT5.box); (case hw => rfl); (case hx => rfl))
          (refine wpList_store_row rfl 25 (.tmp 6) (.tmp 40) rfl (w.heap.size + 1) ((x.withF k n).cells E1 f1 E2 f2) rfl rfl 25 (View.zero.cells none 0 none 0) hT5.res (view_size _ _ _ _ _) rfl (View.oneCell _ _ _ _ _) ?_)
          go_wp2
          refine bodyPost_ret (results_cell_tmp rfl _ _ (w.heap.size + 1) 25 ((x.withF k n).cells E1 f1 E2 f2) (0, 0) _ rfl (hT5.res.setRow (x.withF k n) E1 E2 f1 f2) Tryd.underlying25 rfl (view_size _ _ _ _ _)) rfl ?_
          rw [HR.out.1, HR.out.2]
          exact ⟨E1, f1, E2, f2, rfl, hR5.row (w.heap.size + 1) _ (fun b off e => by have := HG.out.1 b off e; omega) (fun b off e => by have := HG.out.2 b off e; omega), below_setRow hT5.b (Nat.le_succ _) _, fun b off e => by have := HG.out.1 b off e; omega, fun b off e => by have := HG.out.2 b off e; omega⟩
        case true =>
          have eo : otherF x n = -1 := by simp [otherF, e4]
          rw [eo] at HR
          have p1 := hT5.box.finger hk
          have p2 := hT5.box.frozen
          go_upto_region 8 with (fail)
          refine name_world fun W6 hW6 => ?_
          have hT6 : Two w W6 w.heap.size (w.heap.size + 1) ((x.withF k n).withF k (-1)) View.zero E1 f1 E2 f2 none 0 none 0 := by rw [← hW6]; exact hT5.setF (Nat.le_refl _) (Nat.succ_ne_self _) hk _
          have hR6 : RepV W6 ((x.withF k n).withF k (-1)) E1 f1 E2 f2 := by rw [← hW6]; exact (hR5.withF k _).set _ _ (fun b off e => by have := HG.out.1 b off e; show b ≠ w.heap.size; omega) (fun b off e => by have := HG.out.2 b off e; show b ≠ w.heap.size; omega)
          rw [withF_twice] at hT6 hR6
          clear hW6
          refine wp_region_lit ?_
          (refine wpList_load_view (t := 3) (x.withF k (-1)) E1 E2 f1 f2 w.heap.size ?hg ?hw ?hx ?_; (case hg => exact hT6.box); (case hw => rfl); (case hx => rfl))
          (refine wpList_store_row rfl 25 (.tmp 6) (.tmp 40) rfl (w.heap.size + 1) ((x.withF k (-1)).cells E1 f1 E2 f2) rfl rfl 25 (View.zero.cells none 0 none 0) hT6.res (view_size _ _ _ _ _) rfl (View.oneCell _ _ _ _ _) ?_)
          go_wp2
          refine bodyPost_ret (results_cell_tmp rfl _ _ (w.heap.size + 1) 25 ((x.withF k (-1)).cells E1 f1 E2 f2) (0, 0) _ rfl (hT6.res.setRow (x.withF k (-1)) E1 E2 f1 f2) Tryd.underlying25 rfl (view_size _ _ _ _ _)) rfl ?_
          rw [HR.out.1, HR.out.2]
          exact ⟨E1, f1, E2, f2, rfl, hR6.row (w.heap.size + 1) _ (fun b off e => by have := HG.out.1 b off e; omega) (fun b off e => by have := HG.out.2 b off e; omega), below_setRow hT6.b (Nat.le_succ _) _, fun b off e => by have := HG.out.1 b off e; omega, fun b off e => by have := HG.out.2 b off e; omega⟩
end Go.Proofs.YtbjgfcempfpfcaaDoor
