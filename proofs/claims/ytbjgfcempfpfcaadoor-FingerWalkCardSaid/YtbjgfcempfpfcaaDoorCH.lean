/- Contracts: tables of fingers. -/
import Derived.Test.YtbjgfcempfpfcaaDoorCG
namespace Go.Proofs.YtbjgfcempfpfcaaDoor
open Go.RowKit Go.Shelf

def allPl (l : List Int) : Bool := l.all isPl
theorem allPl_next {l : List Int} {k : Nat} (h : k < l.length) : (l.take (k + 1)).all isPl = ((l.take k).all isPl && isPl (nth l k)) := by
  rw [nth_eq h, List.take_succ_eq_append_getElem h, List.all_append]; simp

set_option maxHeartbeats 400000 in
theorem finger_Table1 (n : Int) (w : World) :
    Calls Tryd.prog 59 #[.int .i64 n] w fun e w' => e = .returned (.bool (!isPl n)) ∧ w = w' := by
  go_enter Tryd.func59, Tryd.ntmps59
  go_wp2_with (go_at_call 54; refine (finger_place _ _).mono ?_; rintro e w' ⟨rfl, rfl⟩)
  go_ret
  exact ⟨rfl, rfl⟩

set_option maxRecDepth 100000 in
set_option maxHeartbeats 1000000 in
theorem slices_IndexFunc_T (A : Option Addr) (c : Nat) (l : List Int) (w : World) (hs : Sl w A c l) :
    Calls Tryd.prog 85 #[.slice A l.length c, .func (.func 59) #[] #[]] w fun e w' => ∃ r : Int, e = .returned (.int .i64 r) ∧ decide (0 ≤ r) = !allPl l ∧ w = w' := by
  have hsm := hs.small
  have hcap := hs.cap
  go_enter Tryd.func85, Tryd.ntmps85
  go_wp2
  go_loopw [8] (fun t8 wr => ∃ k : Nat, k ≤ l.length ∧ t8 = .int .i64 k ∧ Hid ((l.take k).all isPl = true) ∧ Hid (wr = w)) (fun t8 _ => l.length - (intOf t8).toNat)
  case atStart => exact ⟨0, Nat.zero_le _, rfl, Lib.hid (by simp), Lib.hid rfl⟩
  case round =>
    obtain ⟨k, hk, rfl, hall, hw⟩ := hrel
    by_cases hlt : k < l.length
    · obtain ⟨b, off, rfl, _, hcell⟩ := hs.at_ (by omega)
      have hc : wr.cell? ⟨b, off + k, none⟩ = some (.int .i64 (nth l k)) := by rw [hw.out]; exact hcell k hlt
      clear hcell
      have hn := allPl_next hlt
      cases hp : isPl (nth l k) with
      | true =>
        have HN := Lib.hid hn
        clear hn
        go_wp2_with (go_at_call 59; refine (finger_Table1 _ _).mono ?_; rintro e w' ⟨he, rfl⟩; rw [hp] at he; subst he)
        go_roundw
        case rel => exact ⟨k + 1, by omega, by go_num, Lib.hid (by rw [HN.out, hall.out, hp]; rfl), hw⟩
        case measure => simp [intOf]; omega
      | false =>
        have HN := Lib.hid (show allPl l = false by
          rw [Bool.eq_false_iff]; intro h; rw [allPl, List.all_eq_true] at h
          rw [h _ (nth_mem hlt)] at hp; cases hp)
        clear hn
        go_wp2_with (go_at_call 59; refine (finger_Table1 _ _).mono ?_; rintro e w' ⟨he, rfl⟩; rw [hp] at he; subst he)
        go_ret
        exact ⟨k, rfl, by rw [HN.out]; simp, hw.out.symm⟩
    · obtain rfl : k = l.length := by omega
      go_wp2
      go_ret
      exact ⟨-1, rfl, by have := hall.out; rw [List.take_length] at this; rw [allPl, this]; simp, hw.out.symm⟩

set_option maxRecDepth 100000 in
set_option maxHeartbeats 1000000 in
theorem slices_ContainsFunc_T (A : Option Addr) (c : Nat) (l : List Int) (w : World) (hs : Sl w A c l) :
    Calls Tryd.prog 58 #[.slice A l.length c, .func (.func 59) #[] #[]] w fun e w' => e = .returned (.bool (!allPl l)) ∧ w = w' := by
  go_enter Tryd.func58, Tryd.ntmps58
  go_wp2_with (go_at_call 85; refine (slices_IndexFunc_T A c l _ hs).mono ?_; rintro e w' ⟨r, rfl, hr, rfl⟩)
  all_goals (go_ret; exact ⟨ret_bool (by rw [← hr]; try (first | rfl | simp_all)), rfl⟩)

def tableOk (x : View) (l : List Int) : Bool := rightV x && decide (0 < l.length) && allPl l
/-- A table's k-th finger. -/
def tabN (x : View) (l : List Int) (k : Nat) : Int := otherF x (ownL (startF x.id k) l)
/-- .. set up to the k-th one. -/
def tabQ (x : View) (l : List Int) (k : Nat) : View := { x with f := fun j => if j < k then tabN x l j else x.f j }
def tabV (x : View) (l : List Int) : View := if tableOk x l then tabQ x l 16 else x
def tabE (x : View) (l : List Int) : Int := if tableOk x l then 0 else 2
theorem tab_no {x : View} {l : List Int} (h : tableOk x l = false) : tabV x l = x ∧ tabE x l = 2 := by simp [tabV, tabE, h]
theorem tab_yes {x : View} {l : List Int} (h : tableOk x l = true) : tabV x l = tabQ x l 16 ∧ tabE x l = 0 := by simp [tabV, tabE, h]
theorem tabQ_zero (x : View) (l : List Int) : tabQ x l 0 = x := by simp [tabQ]
theorem tabQ_next (x : View) (l : List Int) (k : Nat) : (tabQ x l k).withF k (tabN x l k) = tabQ x l (k + 1) := by
  simp only [tabQ, View.withF, View.mk.injEq, true_and]
  funext j
  by_cases h1 : j = k
  · subst h1; simp
  · by_cases h2 : j < k
    · simp [h1, h2, show j < k + 1 by omega]
    · simp [h1, h2, show ¬ j < k + 1 by omega]
theorem other_eq {x : View} {n : Int} (h : (n == x.id) = true) : otherF x n = -1 := by simp [otherF, h]
theorem other_ne {x : View} {n : Int} (h : (n == x.id) = false) : otherF x n = n := by simp [otherF, h]
/-- Fingers alone, set up to the k-th one. -/
def tabZ (x : View) (l : List Int) (k : Nat) : View := ⟨0, [], [], 0, fun j => if j < k then tabN x l j else 0⟩
theorem tabZ_next (x : View) (l : List Int) (k : Nat) : (tabZ x l k).withF k (tabN x l k) = tabZ x l (k + 1) := by
  simp only [tabZ, View.withF, View.mk.injEq, true_and]
  funext j
  by_cases h1 : j = k
  · subst h1; simp
  · by_cases h2 : j < k
    · simp [h1, h2, show j < k + 1 by omega]
    · simp [h1, h2, show ¬ j < k + 1 by omega]
theorem tab_eq {x : View} {l : List Int} (h : fEq x (tabZ x l 16) = true) : tabQ x l 16 = x := by
  unfold fEq at h
  rw [List.all_eq_true] at h
  have hf : (fun j => if j < 16 then tabN x l j else x.f j) = x.f := by
    funext j
    split
    · rename_i hj
      have := h j (by simp [hj])
      simp [tabZ, hj] at this
      exact this.symm
    · rfl
  unfold tabQ
  rw [hf]

set_option maxRecDepth 100000 in
set_option maxHeartbeats 4000000 in
theorem r17_Table (x : View) (A1 A2 : Option Addr) (c1 c2 : Nat) (A3 : Option Addr) (c3 : Nat) (l : List Int) (w : World) (h : RepV w x A1 c1 A2 c2) (hs : Sl w A3 c3 l) :
    Calls Tryd.prog 24 #[x.v A1 c1 A2 c2, .slice A3 l.length c3] w (RetVE w (tabV x l) (tabE x l)) := by
  have hsm := hs.small
  have hcap := hs.cap
  unfold View.v
  go_enter Tryd.func24, Tryd.ntmps24
  go_upto_region 1 with (fail)
  refine name_world fun W0 hW0 => ?_
  have hT := two_start hW0
  clear hW0
  refine wp_region_lit ?_
  (refine wpList_load_view (t := 2) x A1 A2 c1 c2 w.heap.size ?hg ?hw ?hx ?_; (case hg => exact hT.box); (case hw => rfl); (case hx => rfl))
  go_upto_region 2 with (first | (go_at_call 43; refine (r13_Own x A1 A2 c1 c2 _ ⟨h.base.below hT.b, h.list.below hT.b⟩).mono ?_; rintro e W1 ⟨E1, f1, E2, f2, rfl, hr1, hb1, hf1, hf2⟩; have hT1 := hT.below (Nat.le_refl _) (Nat.le_succ _) hb1) | (refine wpList_store_row rfl 25 (.tmp 2) (.tmp 12) rfl w.heap.size (x.cells E1 f1 E2 f2) rfl rfl 25 (x.cells A1 c1 A2 c2) hT1.box (view_size _ _ _ _ _) rfl (View.oneCell _ _ _ _ _) ?_))
  refine name_world fun W2 hW2 => ?_
  have z1 := hb1.size
  have z2 := hT.res.lt
  have hT2 : Two w W2 w.heap.size (w.heap.size + 1) x View.zero E1 f1 E2 f2 none 0 none 0 := by rw [← hW2]; exact hT1.setRow (Nat.le_refl _) (Nat.succ_ne_self _)
  have hR2 : RepV W2 x E1 f1 E2 f2 := by rw [← hW2]; exact hr1.row _ _ (fun b off e => by have := hf1 b off e; omega) (fun b off e => by have := hf2 b off e; omega)
  have g1 : ∀ b off, E1 = some ⟨b, off, none⟩ → w.heap.size + 1 < b := fun b off e => by have := hf1 b off e; omega
  have g2 : ∀ b off, E2 = some ⟨b, off, none⟩ → w.heap.size + 1 < b := fun b off e => by have := hf2 b off e; omega
  have HG := Lib.hid (And.intro g1 g2)
  clear hW2 hT1 hT hb1 hr1 hf1 hf2 g1 g2 z1 z2
  cases e1 : rightV x
  case false =>
    have HR := Lib.hid (tab_no (l := l) (show tableOk x l = false by simp [tableOk, e1]))
    have HF := Lib.hid (show (false && l.all isPl) = false from rfl)
    go_upto_region 3 with (first | (refine wpList_load_view (t := 2) x E1 E2 f1 f2 w.heap.size ?hg ?hw ?hx ?_; (case hg => exact hT2.box); (case hw => rfl); (case hx => rfl)) | (go_at_call 25; refine (r13_Right x E1 E2 f1 f2 _ hR2.base hR2.list).mono ?_; rintro e W3 ⟨he, hb3⟩; rw [e1] at he; subst he; have hT3 := hT2.below (Nat.le_refl _) (Nat.le_succ _) hb3; have hR3 := hR2.below hb3))
    have hs3 := hs.below hT3.b
    have HS := Lib.hid hs3
    have HT0 := Lib.hid hT3
    have HR0 := Lib.hid hR3
    clear hT2 hR2 hT3 hR3 hb3 hs3
    go_wp2
    go_loopw [6, 7] (fun t6 t7 wr => ∃ k : Nat, k ≤ l.length ∧ t6 = .bool false ∧ t7 = .int .i64 k ∧ Hid (wr = W3)) (fun t6 t7 _ => l.length - (intOf t7).toNat)
    case atStart => exact ⟨0, Nat.zero_le _, rfl, rfl, Lib.hid rfl⟩
    case round =>
      obtain ⟨k, hk, rfl, rfl, hw⟩ := hrel
      by_cases hlt : k < l.length
      · go_wp2
        go_roundw
        case rel => exact ⟨k + 1, by omega, rfl, by go_num, hw⟩
        case measure => simp [intOf]; omega
      · obtain rfl : k = l.length := by omega
        obtain rfl := hw.out
        have hT3 := HT0.out
        have hR3 := HR0.out
        clear hw
        go_upto_region 8 with (fail)
        refine wp_region_lit ?_
        (refine wpList_load_view (t := 2) x E1 E2 f1 f2 w.heap.size ?hg ?hw ?hx ?_; (case hg => exact hT3.box); (case hw => rfl); (case hx => rfl))
        (refine wpList_store_row rfl 25 (.tmp 4) (.tmp 43) rfl (w.heap.size + 1) (x.cells E1 f1 E2 f2) rfl rfl 25 (View.zero.cells none 0 none 0) hT3.res (view_size _ _ _ _ _) rfl (View.oneCell _ _ _ _ _) ?_)
        go_wp2
        refine bodyPost_ret (results_cell_tmp rfl _ _ (w.heap.size + 1) 25 (x.cells E1 f1 E2 f2) (0, 0) _ rfl (hT3.res.setRow x E1 E2 f1 f2) Tryd.underlying25 rfl (view_size _ _ _ _ _)) rfl ?_
        rw [HR.out.1, HR.out.2]
        exact ⟨E1, f1, E2, f2, rfl, hR3.row (w.heap.size + 1) _ (fun b off e => by have := HG.out.1 b off e; omega) (fun b off e => by have := HG.out.2 b off e; omega), below_setRow hT3.b (Nat.le_succ _) _, fun b off e => by have := HG.out.1 b off e; omega, fun b off e => by have := HG.out.2 b off e; omega⟩
  case true =>
    rcases Nat.eq_zero_or_pos l.length with h0 | h0
    · have HR := Lib.hid (tab_no (x := x) (show tableOk x l = false by simp [tableOk, h0]))
      have HF := Lib.hid (show (false && l.all isPl) = false from rfl)
      go_upto_region 3 with (first | (refine wpList_load_view (t := 2) x E1 E2 f1 f2 w.heap.size ?hg ?hw ?hx ?_; (case hg => exact hT2.box); (case hw => rfl); (case hx => rfl)) | (go_at_call 25; refine (r13_Right x E1 E2 f1 f2 _ hR2.base hR2.list).mono ?_; rintro e W3 ⟨he, hb3⟩; rw [e1] at he; subst he; have hT3 := hT2.below (Nat.le_refl _) (Nat.le_succ _) hb3; have hR3 := hR2.below hb3))
      have hs3 := hs.below hT3.b
      have HS := Lib.hid hs3
      have HT0 := Lib.hid hT3
      have HR0 := Lib.hid hR3
      clear hT2 hR2 hT3 hR3 hb3 hs3
      go_wp2
      go_loopw [6, 7] (fun t6 t7 wr => ∃ k : Nat, k ≤ l.length ∧ t6 = .bool false ∧ t7 = .int .i64 k ∧ Hid (wr = W3)) (fun t6 t7 _ => l.length - (intOf t7).toNat)
      case atStart => exact ⟨0, Nat.zero_le _, rfl, rfl, Lib.hid rfl⟩
      case round =>
        obtain ⟨k, hk, rfl, rfl, hw⟩ := hrel
        by_cases hlt : k < l.length
        · omega

        · obtain rfl : k = l.length := by omega
          obtain rfl := hw.out
          have hT3 := HT0.out
          have hR3 := HR0.out
          clear hw
          go_upto_region 8 with (fail)
          refine wp_region_lit ?_
          (refine wpList_load_view (t := 2) x E1 E2 f1 f2 w.heap.size ?hg ?hw ?hx ?_; (case hg => exact hT3.box); (case hw => rfl); (case hx => rfl))
          (refine wpList_store_row rfl 25 (.tmp 4) (.tmp 43) rfl (w.heap.size + 1) (x.cells E1 f1 E2 f2) rfl rfl 25 (View.zero.cells none 0 none 0) hT3.res (view_size _ _ _ _ _) rfl (View.oneCell _ _ _ _ _) ?_)
          go_wp2
          refine bodyPost_ret (results_cell_tmp rfl _ _ (w.heap.size + 1) 25 (x.cells E1 f1 E2 f2) (0, 0) _ rfl (hT3.res.setRow x E1 E2 f1 f2) Tryd.underlying25 rfl (view_size _ _ _ _ _)) rfl ?_
          rw [HR.out.1, HR.out.2]
          exact ⟨E1, f1, E2, f2, rfl, hR3.row (w.heap.size + 1) _ (fun b off e => by have := HG.out.1 b off e; omega) (fun b off e => by have := HG.out.2 b off e; omega), below_setRow hT3.b (Nat.le_succ _) _, fun b off e => by have := HG.out.1 b off e; omega, fun b off e => by have := HG.out.2 b off e; omega⟩
    · go_upto_region 3 with (first | (refine wpList_load_view (t := 2) x E1 E2 f1 f2 w.heap.size ?hg ?hw ?hx ?_; (case hg => exact hT2.box); (case hw => rfl); (case hx => rfl)) | (go_at_call 25; refine (r13_Right x E1 E2 f1 f2 _ hR2.base hR2.list).mono ?_; rintro e W3 ⟨he, hb3⟩; rw [e1] at he; subst he; have hT3 := hT2.below (Nat.le_refl _) (Nat.le_succ _) hb3; have hR3 := hR2.below hb3))
      cases e5 : allPl l
      case false =>
        have HR := Lib.hid (tab_no (x := x) (show tableOk x l = false by simp [tableOk, e5]))
        have HF := Lib.hid (show (true && l.all isPl) = false by rw [Bool.true_and]; exact e5)
        have hs3 := hs.below hT3.b
        have HS := Lib.hid hs3
        have HT0 := Lib.hid hT3
        have HR0 := Lib.hid hR3
        clear hT2 hR2 hT3 hR3 hb3 hs3
        go_wp2
        go_loopw [6, 7] (fun t6 t7 wr => ∃ k : Nat, k ≤ l.length ∧ t6 = .bool (true && (l.take k).all isPl) ∧ t7 = .int .i64 k ∧ Hid (wr = W3)) (fun t6 t7 _ => l.length - (intOf t7).toNat)
        case atStart => exact ⟨0, Nat.zero_le _, by simp, rfl, Lib.hid rfl⟩
        case round =>
          obtain ⟨k, hk, rfl, rfl, hw⟩ := hrel
          by_cases hlt : k < l.length
          · obtain ⟨b, off, rfl, _, hcell⟩ := HS.out.at_ (by omega)
            have hc : wr.cell? ⟨b, off + k, none⟩ = some (.int .i64 (nth l k)) := by rw [hw.out]; exact hcell k hlt
            clear hcell
            have hn := allPl_next hlt
            have HN := Lib.hid hn
            clear hn
            cases hf : (true && (l.take k).all isPl) with
            | false =>
              go_wp2
              go_roundw
              case rel => exact ⟨k + 1, by omega, by rw [HN.out, ← Bool.and_assoc, hf]; try rfl, by go_num, hw⟩
              case measure => simp [intOf]; omega
            | true =>
              cases h1 : decide (0 ≤ nth l k) with
              | false =>
                go_wp2
                go_roundw
                case rel => exact ⟨k + 1, by omega, by rw [HN.out, ← Bool.and_assoc, hf, isPl, h1]; try rfl, by go_num, hw⟩
                case measure => simp [intOf]; omega
              | true =>
                cases h2 : decide (nth l k < 65536)
                all_goals
                  go_wp2
                  go_roundw
                  · exact ⟨k + 1, by omega, by rw [HN.out, ← Bool.and_assoc, hf, isPl, h1, h2]; try rfl, by go_num, hw⟩
                  · simp [intOf]; omega
          · obtain rfl : k = l.length := by omega
            obtain rfl := hw.out
            rw [List.take_length]
            have hT3 := HT0.out
            have hR3 := HR0.out
            clear hw
            rw [show ((true) && l.all isPl) = false from HF.out]
            go_upto_region 8 with (fail)
            refine wp_region_lit ?_
            (refine wpList_load_view (t := 2) x E1 E2 f1 f2 w.heap.size ?hg ?hw ?hx ?_; (case hg => exact hT3.box); (case hw => rfl); (case hx => rfl))
            (refine wpList_store_row rfl 25 (.tmp 4) (.tmp 43) rfl (w.heap.size + 1) (x.cells E1 f1 E2 f2) rfl rfl 25 (View.zero.cells none 0 none 0) hT3.res (view_size _ _ _ _ _) rfl (View.oneCell _ _ _ _ _) ?_)
            go_wp2
            refine bodyPost_ret (results_cell_tmp rfl _ _ (w.heap.size + 1) 25 (x.cells E1 f1 E2 f2) (0, 0) _ rfl (hT3.res.setRow x E1 E2 f1 f2) Tryd.underlying25 rfl (view_size _ _ _ _ _)) rfl ?_
            rw [HR.out.1, HR.out.2]
            exact ⟨E1, f1, E2, f2, rfl, hR3.row (w.heap.size + 1) _ (fun b off e => by have := HG.out.1 b off e; omega) (fun b off e => by have := HG.out.2 b off e; omega), below_setRow hT3.b (Nat.le_succ _) _, fun b off e => by have := HG.out.1 b off e; omega, fun b off e => by have := HG.out.2 b off e; omega⟩
      case true =>
        have HR := Lib.hid (tab_yes (show tableOk x l = true by simp [tableOk, e1, h0, e5]))
        have HF := Lib.hid (show (true && l.all isPl) = true by rw [Bool.true_and]; exact e5)
        have hs3 := hs.below hT3.b
        have HS := Lib.hid hs3
        have HT0 := Lib.hid hT3
        have HR0 := Lib.hid hR3
        clear hT2 hR2 hT3 hR3 hb3 hs3
        go_wp2
        go_loopw [6, 7] (fun t6 t7 wr => ∃ k : Nat, k ≤ l.length ∧ t6 = .bool (true && (l.take k).all isPl) ∧ t7 = .int .i64 k ∧ Hid (wr = W3)) (fun t6 t7 _ => l.length - (intOf t7).toNat)
        case atStart => exact ⟨0, Nat.zero_le _, by simp, rfl, Lib.hid rfl⟩
        case round =>
          obtain ⟨k, hk, rfl, rfl, hw⟩ := hrel
          by_cases hlt : k < l.length
          · obtain ⟨b, off, rfl, _, hcell⟩ := HS.out.at_ (by omega)
            have hc : wr.cell? ⟨b, off + k, none⟩ = some (.int .i64 (nth l k)) := by rw [hw.out]; exact hcell k hlt
            clear hcell
            have hn := allPl_next hlt
            have HN := Lib.hid hn
            clear hn
            cases hf : (true && (l.take k).all isPl) with
            | false =>
              go_wp2
              go_roundw
              case rel => exact ⟨k + 1, by omega, by rw [HN.out, ← Bool.and_assoc, hf]; try rfl, by go_num, hw⟩
              case measure => simp [intOf]; omega
            | true =>
              cases h1 : decide (0 ≤ nth l k) with
              | false =>
                go_wp2
                go_roundw
                case rel => exact ⟨k + 1, by omega, by rw [HN.out, ← Bool.and_assoc, hf, isPl, h1]; try rfl, by go_num, hw⟩
                case measure => simp [intOf]; omega
              | true =>
                cases h2 : decide (nth l k < 65536)
                all_goals
                  go_wp2
                  go_roundw
                  · exact ⟨k + 1, by omega, by rw [HN.out, ← Bool.and_assoc, hf, isPl, h1, h2]; try rfl, by go_num, hw⟩
                  · simp [intOf]; omega
          · obtain rfl : k = l.length := by omega
            obtain rfl := hw.out
            rw [List.take_length]
            have hT3 := HT0.out
            have hR3 := HR0.out
            clear hw
            rw [show ((true) && l.all isPl) = true from HF.out]
            go_wp2
            go_loopw [8] (fun t8 wr => ∃ k : Nat, k ≤ 16 ∧ t8 = .int .i64 k ∧ Hid (Two w wr w.heap.size (w.heap.size + 1) (tabQ x l k) View.zero E1 f1 E2 f2 none 0 none 0) ∧ Hid (RepV wr x E1 f1 E2 f2)) (fun t8 _ => 16 - (intOf t8).toNat)
            case atStart => exact ⟨0, Nat.zero_le _, rfl, by rw [tabQ_zero]; exact HT0, HR0⟩
            case round =>
              clear hT3 hR3
              obtain ⟨k, hk, rfl, hT, hR⟩ := hrel
              by_cases hlt : k < 16
              · have q0 : wr.cell? ⟨w.heap.size, 0, none⟩ = some (.int .i64 x.id) := hT.out.box.cells.1
                have p1 := hT.out.box.finger hlt
                have p2 := hT.out.box.frozen
                cases e4 : (ownL (startF x.id k) l == x.id) with
                | false =>
                  have HO := Lib.hid (show ownL (startF x.id k) l = tabN x l k from (other_ne e4).symm)
                  go_wp2_with (first | (go_at_call 29; refine (r03_Start _ _ _).mono ?_; rintro e w' ⟨rfl, rfl⟩) | (go_at_call 26; refine (r03_Owner _ A3 c3 l _ (hs.below hT.out.b)).mono ?_; rintro e w' ⟨rfl, rfl⟩))
                  go_roundw
                  case rel => exact ⟨k + 1, by omega, by go_num, by rw [← tabQ_next, ← HO.out]; exact Lib.hid (hT.out.setF (Nat.le_refl _) (Nat.succ_ne_self _) hlt _), Lib.hid (hR.out.set _ _ (fun b off e => by have := HG.out.1 b off e; show b ≠ w.heap.size; omega) (fun b off e => by have := HG.out.2 b off e; show b ≠ w.heap.size; omega))⟩
                  case measure => simp [intOf]; omega
                | true =>
                  have HO := Lib.hid (show -1 = tabN x l k from (other_eq e4).symm)
                  go_upto_region 14 with (first | (go_at_call 29; refine (r03_Start _ _ _).mono ?_; rintro e w' ⟨rfl, rfl⟩) | (go_at_call 26; refine (r03_Owner _ A3 c3 l _ (hs.below hT.out.b)).mono ?_; rintro e w' ⟨rfl, rfl⟩))
                  refine name_world fun W4 hW4 => ?_
                  have hT4 : Two w W4 w.heap.size (w.heap.size + 1) ((tabQ x l k).withF k (ownL (startF x.id k) l)) View.zero E1 f1 E2 f2 none 0 none 0 := by rw [← hW4]; exact hT.out.setF (Nat.le_refl _) (Nat.succ_ne_self _) hlt _
                  have hR4 : RepV W4 x E1 f1 E2 f2 := by rw [← hW4]; exact hR.out.set _ _ (fun b off e => by have := HG.out.1 b off e; show b ≠ w.heap.size; omega) (fun b off e => by have := HG.out.2 b off e; show b ≠ w.heap.size; omega)
                  clear hW4 q0 p1 p2
                  have q0 : W4.cell? ⟨w.heap.size, 0, none⟩ = some (.int .i64 x.id) := hT4.box.cells.1
                  have p1 := hT4.box.finger hlt
                  have p2 := hT4.box.frozen
                  go_wp2
                  go_roundw
                  case rel => exact ⟨k + 1, by omega, by go_num, by rw [← tabQ_next, ← HO.out, ← withF_twice _ _ (ownL (startF x.id k) l)]; exact Lib.hid (hT4.setF (Nat.le_refl _) (Nat.succ_ne_self _) hlt _), Lib.hid (hR4.set _ _ (fun b off e => by have := HG.out.1 b off e; show b ≠ w.heap.size; omega) (fun b off e => by have := HG.out.2 b off e; show b ≠ w.heap.size; omega))⟩
                  case measure => simp [intOf]; omega
              · obtain rfl : k = 16 := by omega
                have hT6 := hT.out
                have hR6 : RepV wr (tabQ x l 16) E1 f1 E2 f2 := ⟨hR.out.base, hR.out.list⟩
                go_upto_region 16 with (fail)
                refine wp_region_lit ?_
                (refine wpList_load_view (t := 2) (tabQ x l 16) E1 E2 f1 f2 w.heap.size ?hg ?hw ?hx ?_; (case hg => exact hT6.box); (case hw => rfl); (case hx => rfl))
                (refine wpList_store_row rfl 25 (.tmp 4) (.tmp 68) rfl (w.heap.size + 1) ((tabQ x l 16).cells E1 f1 E2 f2) rfl rfl 25 (View.zero.cells none 0 none 0) hT6.res (view_size _ _ _ _ _) rfl (View.oneCell _ _ _ _ _) ?_)
                go_wp2
                refine bodyPost_ret (results_cell_tmp rfl _ _ (w.heap.size + 1) 25 ((tabQ x l 16).cells E1 f1 E2 f2) (0, 0) _ rfl (hT6.res.setRow (tabQ x l 16) E1 E2 f1 f2) Tryd.underlying25 rfl (view_size _ _ _ _ _)) rfl ?_
                rw [HR.out.1, HR.out.2]
                exact ⟨E1, f1, E2, f2, rfl, hR6.row (w.heap.size + 1) _ (fun b off e => by have := HG.out.1 b off e; omega) (fun b off e => by have := HG.out.2 b off e; omega), below_setRow hT6.b (Nat.le_succ _) _, fun b off e => by have := HG.out.1 b off e; omega, fun b off e => by have := HG.out.2 b off e; omega⟩

/-- A block with the fingers of z alone. -/
def FBox (W : World) (B : Nat) (z : View) : Prop := W.heap[B]? = some (.cells z.fing 23 (0, 0))
theorem fing_size (z : View) : (Tryd.prog.info? 23).map (·.size) = some z.fing.size := by kernel_rfl
theorem fing_one (z : View) : z.fing.all (·.oneCell') = true := by kernel_rfl
theorem FBox.lt {W : World} {B : Nat} {z : View} (h : FBox W B z) : B < W.heap.size := (Array.getElem?_eq_some_iff.1 h).1
theorem FBox.below {W W' : World} {B L : Nat} {z : View} (h : FBox W B z) (hb : Below L W W') (hB : B < L) : FBox W' B z := (hb.block B hB).trans h
theorem FBox.cell {W : World} {B : Nat} {z : View} (h : FBox W B z) {k : Nat} (hk : k < 16) : W.cell? ⟨B, k, none⟩ = some (.int .i64 (z.f k)) := by
  unfold FBox at h
  have := z.fing_at hk
  simp [World.cell?, h, this]
theorem FBox.frozen {W : World} {B : Nat} {z : View} (h : FBox W B z) : ∀ o, W.frozen? ⟨B, o, none⟩ = false := by
  intro o; unfold FBox at h; simp [World.frozen?, h]
theorem FBox.set {W : World} {B : Nat} {z : View} (h : FBox W B z) {k : Nat} (hk : k < 16) (v : Int) : FBox (W.setCell ⟨B, k, none⟩ (.int .i64 v)) B (z.withF k v) := by
  have h1 := heap_setCell_at W B k (.int .i64 v) _ _ _ h
  have : k = 0 ∨ k = 1 ∨ k = 2 ∨ k = 3 ∨ k = 4 ∨ k = 5 ∨ k = 6 ∨ k = 7 ∨ k = 8 ∨ k = 9 ∨ k = 10 ∨ k = 11 ∨ k = 12 ∨ k = 13 ∨ k = 14 ∨ k = 15 := by omega
  rcases this with rfl | rfl | rfl | rfl | rfl | rfl | rfl | rfl | rfl | rfl | rfl | rfl | rfl | rfl | rfl | rfl <;> exact h1
theorem FBox.new (w : World) (l : List Int) (x : View) : FBox (w.alloc (.cells (tabZ x l 0).fing 23)) w.heap.size (tabZ x l 0) := heap_alloc_new w _
theorem neq_fing (x y : View) (w : World) : (binOp .neq 23 (.agg x.fing) (.agg y.fing)).run Tryd.prog w = .ok (.bool (!fEq x y)) w := by
  obtain ⟨i0, hi, -, -, -⟩ := info_parts Tryd.info_int
  rw [run_neq_struct, show (10000 : Nat) = 9998 + 1 + 1 from rfl, run_equalIn_array w (9998 + 1) x.fing y.fing Tryd.underlying23 hi, eqItems_fing x y 9998 w _ (by simp)]
  rfl
def setFrom (cs : Array Value) : Nat → List Value → Array Value
  | _, [] => cs
  | o, v :: r => setFrom (cs.setIfInBounds o v) (o + 1) r
theorem heap_setCells_at (b : Nat) (t : TypeId) (fr : Nat × Nat) : ∀ (vs : List Value) (o : Nat) (w : World) (cs : Array Value), w.heap[b]? = some (.cells cs t fr) → (w.setCells b o vs).heap[b]? = some (.cells (setFrom cs o vs) t fr)
  | [], _, _, _, h => h
  | v :: vs, o, w, cs, h => heap_setCells_at b t fr vs (o + 1) _ _ (heap_setCell_at w b o v cs t fr h)
theorem setFrom_fing (x z : View) (A1 A2 : Option Addr) (c1 c2 : Nat) : setFrom (x.cells A1 c1 A2 c2) 4 z.fing.toList = (⟨x.id, x.base, x.list, x.pred, z.f⟩ : View).cells A1 c1 A2 c2 := by kernel_rfl
theorem VBox.setFing {W : World} {B : Nat} {x y z : View} {A1 A2 : Option Addr} {c1 c2 : Nat} (h : VBox W B x A1 c1 A2 c2) (e1 : y.id = x.id) (e2 : y.base = x.base) (e3 : y.list = x.list) (e4 : y.pred = x.pred) (hf : ∀ k, k < 16 → y.f k = z.f k) : VBox (W.setCells B 4 z.fing.toList) B y A1 c1 A2 c2 := by
  have h1 := heap_setCells_at B _ _ z.fing.toList 4 W _ h
  rw [setFrom_fing] at h1
  have h2 : y.cells A1 c1 A2 c2 = (⟨x.id, x.base, x.list, x.pred, z.f⟩ : View).cells A1 c1 A2 c2 := by
    unfold View.cells
    rw [e1, e2, e3, e4, hf 0 (by omega), hf 1 (by omega), hf 2 (by omega), hf 3 (by omega), hf 4 (by omega), hf 5 (by omega), hf 6 (by omega), hf 7 (by omega), hf 8 (by omega), hf 9 (by omega), hf 10 (by omega), hf 11 (by omega), hf 12 (by omega), hf 13 (by omega), hf 14 (by omega), hf 15 (by omega)]
  unfold VBox
  rw [h2]
  exact h1
theorem below_setCells {B : Nat} {a : World} (b : Nat) (hb : B ≤ b) : ∀ (vs : List Value) (o : Nat) (w : World), Below B a w → Below B a (w.setCells b o vs)
  | [], _, _, h => h
  | v :: vs, o, _, h => below_setCells b hb vs (o + 1) _ (h.setCell (p := ⟨b, o, none⟩) hb v)
theorem heap_setCells (b : Nat) {k : Nat} (hk : k ≠ b) : ∀ (vs : List Value) (o : Nat) (w : World), (w.setCells b o vs).heap[k]? = w.heap[k]?
  | [], _, _ => rfl
  | v :: vs, o, w => (heap_setCells b hk vs (o + 1) _).trans (Below.heap_setCell w ⟨b, o, none⟩ v k hk)
theorem size_setCells (b : Nat) : ∀ (vs : List Value) (o : Nat) (w : World), (w.setCells b o vs).heap.size = w.heap.size
  | [], _, _ => rfl
  | v :: vs, o, w => (size_setCells b vs (o + 1) _).trans (by simp)
theorem VBox.there4 {W : World} {B : Nat} {x z : View} {A1 A2 : Option Addr} {c1 c2 : Nat} (h : VBox W B x A1 c1 A2 c2) : W.there B 4 z.fing.size := fun j hj => by
  have hj16 : j < 16 := hj
  rw [h.finger hj16]; exact ⟨rfl, h.frozen _⟩

set_option maxRecDepth 100000 in
set_option maxHeartbeats 4000000 in
theorem finger_Table (x : View) (A1 A2 : Option Addr) (c1 c2 : Nat) (A3 : Option Addr) (c3 : Nat) (l : List Int) (w : World) (h : RepV w x A1 c1 A2 c2) (hs : Sl w A3 c3 l) (hp : Steps w) :
    Calls Tryd.prog 23 #[x.v A1 c1 A2 c2, .slice A3 l.length c3] w (RetVE w (tabV x l) (tabE x l)) := by
  have hsm := hs.small
  have hcap := hs.cap
  unfold View.v
  go_enter Tryd.func23, Tryd.ntmps23
  go_upto_region 1 with (fail)
  refine name_world fun W0 hW0 => ?_
  have hT := two_start hW0
  clear hW0
  refine wp_region_lit ?_
  (refine wpList_load_view (t := 2) x A1 A2 c1 c2 w.heap.size ?hg ?hw ?hx ?_; (case hg => exact hT.box); (case hw => rfl); (case hx => rfl))
  go_upto_region 2 with (first | (go_at_call 53; refine (view_Own x A1 A2 c1 c2 _ ⟨h.base.below hT.b, h.list.below hT.b⟩).mono ?_; rintro e W1 ⟨E1, f1, E2, f2, rfl, hr1, hb1, hf1, hf2⟩; have hT1 := hT.below (Nat.le_refl _) (Nat.le_succ _) hb1) | (refine wpList_store_row rfl 25 (.tmp 2) (.tmp 11) rfl w.heap.size (x.cells E1 f1 E2 f2) rfl rfl 25 (x.cells A1 c1 A2 c2) hT1.box (view_size _ _ _ _ _) rfl (View.oneCell _ _ _ _ _) ?_))
  refine name_world fun W2 hW2 => ?_
  have z1 := hb1.size
  have z2 := hT.res.lt
  have hT2 : Two w W2 w.heap.size (w.heap.size + 1) x View.zero E1 f1 E2 f2 none 0 none 0 := by rw [← hW2]; exact hT1.setRow (Nat.le_refl _) (Nat.succ_ne_self _)
  have hR2 : RepV W2 x E1 f1 E2 f2 := by rw [← hW2]; exact hr1.row _ _ (fun b off e => by have := hf1 b off e; omega) (fun b off e => by have := hf2 b off e; omega)
  have g1 : ∀ b off, E1 = some ⟨b, off, none⟩ → w.heap.size + 1 < b := fun b off e => by have := hf1 b off e; omega
  have g2 : ∀ b off, E2 = some ⟨b, off, none⟩ → w.heap.size + 1 < b := fun b off e => by have := hf2 b off e; omega
  have HG := Lib.hid (And.intro g1 g2)
  clear hW2 hT1 hT hb1 hr1 hf1 hf2 g1 g2 z1 z2
  rcases Nat.eq_zero_or_pos l.length with h0 | h0
  · have HR := Lib.hid (tab_no (x := x) (show tableOk x l = false by simp [tableOk, h0]))
    have hT3 := hT2
    have hR3 := hR2
    go_upto_region 3 with (fail)
    refine wp_region_lit ?_
    (refine wpList_load_view (t := 2) x E1 E2 f1 f2 w.heap.size ?hg ?hw ?hx ?_; (case hg => exact hT3.box); (case hw => rfl); (case hx => rfl))
    (refine wpList_store_row rfl 25 (.tmp 4) (.tmp 24) rfl (w.heap.size + 1) (x.cells E1 f1 E2 f2) rfl rfl 25 (View.zero.cells none 0 none 0) hT3.res (view_size _ _ _ _ _) rfl (View.oneCell _ _ _ _ _) ?_)
    go_wp2
    refine bodyPost_ret (results_cell_tmp rfl _ _ (w.heap.size + 1) 25 (x.cells E1 f1 E2 f2) (0, 0) _ rfl (hT3.res.setRow x E1 E2 f1 f2) Tryd.underlying25 rfl (view_size _ _ _ _ _)) rfl ?_
    rw [HR.out.1, HR.out.2]
    exact ⟨E1, f1, E2, f2, rfl, hR3.row (w.heap.size + 1) _ (fun b off e => by have := HG.out.1 b off e; omega) (fun b off e => by have := HG.out.2 b off e; omega), below_setRow hT3.b (Nat.le_succ _) _, fun b off e => by have := HG.out.1 b off e; omega, fun b off e => by have := HG.out.2 b off e; omega⟩
  · have hl0 : ((l.length : Int) == 0) = false := beq_eq_false_iff_ne.2 (by omega)
    cases e1 : rightV x
    case false =>
      have HR := Lib.hid (tab_no (l := l) (show tableOk x l = false by simp [tableOk, e1]))
      go_upto_region 3 with (first | (refine wpList_load_view (t := 2) x E1 E2 f1 f2 w.heap.size ?hg ?hw ?hx ?_; (case hg => exact hT2.box); (case hw => rfl); (case hx => rfl)) | (go_at_call 56; refine (view_Right x E1 E2 f1 f2 _ hR2.base hR2.list).mono ?_; rintro e W3 ⟨he, hb3⟩; rw [e1] at he; subst he; have hT3 := hT2.below (Nat.le_refl _) (Nat.le_succ _) hb3; have hR3 := hR2.below hb3))
      refine wp_region_lit ?_
      (refine wpList_load_view (t := 2) x E1 E2 f1 f2 w.heap.size ?hg ?hw ?hx ?_; (case hg => exact hT3.box); (case hw => rfl); (case hx => rfl))
      (refine wpList_store_row rfl 25 (.tmp 4) (.tmp 24) rfl (w.heap.size + 1) (x.cells E1 f1 E2 f2) rfl rfl 25 (View.zero.cells none 0 none 0) hT3.res (view_size _ _ _ _ _) rfl (View.oneCell _ _ _ _ _) ?_)
      go_wp2
      refine bodyPost_ret (results_cell_tmp rfl _ _ (w.heap.size + 1) 25 (x.cells E1 f1 E2 f2) (0, 0) _ rfl (hT3.res.setRow x E1 E2 f1 f2) Tryd.underlying25 rfl (view_size _ _ _ _ _)) rfl ?_
      rw [HR.out.1, HR.out.2]
      exact ⟨E1, f1, E2, f2, rfl, hR3.row (w.heap.size + 1) _ (fun b off e => by have := HG.out.1 b off e; omega) (fun b off e => by have := HG.out.2 b off e; omega), below_setRow hT3.b (Nat.le_succ _) _, fun b off e => by have := HG.out.1 b off e; omega, fun b off e => by have := HG.out.2 b off e; omega⟩
    case true =>
      cases e5 : allPl l
      case false =>
        have HR := Lib.hid (tab_no (x := x) (show tableOk x l = false by simp [tableOk, e5]))
        go_upto_region 3 with (first | (refine wpList_load_view (t := 2) x E1 E2 f1 f2 w.heap.size ?hg ?hw ?hx ?_; (case hg => exact hT2.box); (case hw => rfl); (case hx => rfl)) | (go_at_call 56; refine (view_Right x E1 E2 f1 f2 _ hR2.base hR2.list).mono ?_; rintro e W3 ⟨he, hb3⟩; rw [e1] at he; subst he; have hT3 := hT2.below (Nat.le_refl _) (Nat.le_succ _) hb3; have hR3 := hR2.below hb3) | (go_at_call 58; refine (slices_ContainsFunc_T A3 c3 l _ (hs.below hT3.b)).mono ?_; rintro e w' ⟨he, rfl⟩; rw [e5] at he; subst he))
        refine wp_region_lit ?_
        (refine wpList_load_view (t := 2) x E1 E2 f1 f2 w.heap.size ?hg ?hw ?hx ?_; (case hg => exact hT3.box); (case hw => rfl); (case hx => rfl))
        (refine wpList_store_row rfl 25 (.tmp 4) (.tmp 24) rfl (w.heap.size + 1) (x.cells E1 f1 E2 f2) rfl rfl 25 (View.zero.cells none 0 none 0) hT3.res (view_size _ _ _ _ _) rfl (View.oneCell _ _ _ _ _) ?_)
        go_wp2
        refine bodyPost_ret (results_cell_tmp rfl _ _ (w.heap.size + 1) 25 (x.cells E1 f1 E2 f2) (0, 0) _ rfl (hT3.res.setRow x E1 E2 f1 f2) Tryd.underlying25 rfl (view_size _ _ _ _ _)) rfl ?_
        rw [HR.out.1, HR.out.2]
        exact ⟨E1, f1, E2, f2, rfl, hR3.row (w.heap.size + 1) _ (fun b off e => by have := HG.out.1 b off e; omega) (fun b off e => by have := HG.out.2 b off e; omega), below_setRow hT3.b (Nat.le_succ _) _, fun b off e => by have := HG.out.1 b off e; omega, fun b off e => by have := HG.out.2 b off e; omega⟩
      case true =>
        have HR := Lib.hid (tab_yes (show tableOk x l = true by simp [tableOk, e1, h0, e5]))
        go_upto_region 5 with (first | (refine wpList_load_view (t := 2) x E1 E2 f1 f2 w.heap.size ?hg ?hw ?hx ?_; (case hg => exact hT2.box); (case hw => rfl); (case hx => rfl)) | (go_at_call 56; refine (view_Right x E1 E2 f1 f2 _ hR2.base hR2.list).mono ?_; rintro e W3 ⟨he, hb3⟩; rw [e1] at he; subst he; have hT3 := hT2.below (Nat.le_refl _) (Nat.le_succ _) hb3; have hR3 := hR2.below hb3) | (go_at_call 58; refine (slices_ContainsFunc_T A3 c3 l _ (hs.below hT3.b)).mono ?_; rintro e w' ⟨he, rfl⟩; rw [e5] at he; subst he))
        refine name_world fun W4 hW4 => ?_
        have hF4 : FBox W4 W3.heap.size (tabZ x l 0) := by rw [← hW4]; exact FBox.new W3 l x
        have hb4 : Below W3.heap.size W3 W4 := by rw [← hW4]; exact (Below.refl _ W3).alloc (Nat.le_refl _) _
        have hT4 := hT3.below (Nat.le_refl _) (Nat.le_succ _) hb4
        have hR4 := hR3.below hb4
        have l6 : w.heap.size + 1 < W3.heap.size := hT3.res.lt
        have ha6 : ApartV x E1 E2 W3.heap.size := ApartV.old hR3 (Nat.le_refl _)
        clear hW4 hT2 hR2 hT3 hR3 hb3 hb4
        obtain ⟨B6, hB6⟩ : ∃ B, W3.heap.size = B := ⟨_, rfl⟩
        rw [hB6] at hF4 l6 ha6 ⊢
        clear hB6
        have HA6 := Lib.hid ha6
        have HT0 := Lib.hid hT4
        have HR0 := Lib.hid hR4
        have HF0 := Lib.hid hF4
        clear hT4 hR4 hF4 ha6
        go_wp2
        go_loopw [25] (fun t25 wr => ∃ k : Nat, k ≤ 16 ∧ t25 = .int .i64 k ∧ Hid (Two w wr w.heap.size (w.heap.size + 1) x View.zero E1 f1 E2 f2 none 0 none 0) ∧ Hid (RepV wr x E1 f1 E2 f2) ∧ Hid (FBox wr B6 (tabZ x l k))) (fun t25 _ => 16 - (intOf t25).toNat)
        case atStart => exact ⟨0, Nat.zero_le _, rfl, HT0, HR0, HF0⟩
        case round =>
          clear HT0 HR0 HF0
          obtain ⟨k, hk, rfl, hT, hR, hF⟩ := hrel
          by_cases hlt : k < 16
          · have q0 : wr.cell? ⟨w.heap.size, 0, none⟩ = some (.int .i64 x.id) := hT.out.box.cells.1
            have hst := hp.below hT.out.b
            have HST := Lib.hid hst
            clear hst
            go_wp2_with (first | (refine wpList_load_view (t := 2) x E1 E2 f1 f2 w.heap.size ?hg ?hw ?hx ?_; (case hg => exact hT.out.box); (case hw => rfl); (case hx => rfl)) | (go_at_call 50; refine (arc_Start _ _ _ HST.out).mono ?_; rintro e w' ⟨rfl, rfl⟩) | (go_at_call 60; refine (arc_Owner _ A3 c3 l _ (hs.below hT.out.b)).mono ?_; rintro e w' ⟨he, rfl⟩; rw [if_pos h0] at he; subst he) | (go_at_call 55; refine (finger_other x E1 E2 f1 f2 _ wr hR.out).mono ?_; rintro e W5 ⟨rfl, hb5⟩; have hT5 := hT.out.below (Nat.le_refl _) (Nat.le_succ _) hb5; have hR5 := hR.out.below hb5; have hF5 := hF.out.below hb5 hF.out.lt; have p1 := hF5.cell hlt; have p2 := hF5.frozen))
            go_roundw
            case rel => exact ⟨k + 1, by omega, by go_num, Lib.hid ⟨hT5.box.other (p := ⟨B6, k, none⟩) (by show w.heap.size ≠ B6; omega) _, hT5.res.other (p := ⟨B6, k, none⟩) (by show w.heap.size + 1 ≠ B6; omega) _, hT5.b.setCell (p := ⟨B6, k, none⟩) (by show w.heap.size ≤ B6; omega) _⟩, Lib.hid (hR5.setA (p := ⟨B6, k, none⟩) _ HA6.out), by rw [← tabZ_next]; exact Lib.hid (hF5.set hlt _)⟩
            case measure => simp [intOf]; omega
          · obtain rfl : k = 16 := by omega
            have hT6 := hT.out
            have hF6 := hF.out
            have hn := neq_fing x (tabZ x l 16)
            have HRG := Lib.hid hT6.box.range
            go_upto_region 11 with (fail)
            refine wp_region_lit ?_
            cases eq : fEq x (tabZ x l 16) with
            | true =>
              rw [eq] at hn
              go_upto_region 13 with (first | (refine wpList_load_fing rfl 23 (.tmp 43) rfl w.heap.size 4 rfl x.fing _ HRG.out Tryd.underlying23 rfl (fing_size x) ?_) | (refine wpList_load_row_n rfl 23 (.tmp 6) rfl B6 rfl 23 (tabZ x l 16).fing (0, 0) _ hF6 Tryd.underlying23 rfl (fing_size _) ?_))
              have HR := Lib.hid (And.intro (HR.out.1.trans (tab_eq eq)) HR.out.2)
              have hR6 := hR.out
              refine wp_region_lit ?_
              (refine wpList_load_view (t := 2) x E1 E2 f1 f2 w.heap.size ?hg ?hw ?hx ?_; (case hg => exact hT6.box); (case hw => rfl); (case hx => rfl))
              (refine wpList_store_row rfl 25 (.tmp 4) (.tmp 49) rfl (w.heap.size + 1) (x.cells E1 f1 E2 f2) rfl rfl 25 (View.zero.cells none 0 none 0) hT6.res (view_size _ _ _ _ _) rfl (View.oneCell _ _ _ _ _) ?_)
              go_wp2
              refine bodyPost_ret (results_cell_tmp rfl _ _ (w.heap.size + 1) 25 (x.cells E1 f1 E2 f2) (0, 0) _ rfl (hT6.res.setRow x E1 E2 f1 f2) Tryd.underlying25 rfl (view_size _ _ _ _ _)) rfl ?_
              rw [HR.out.1, HR.out.2]
              exact ⟨E1, f1, E2, f2, rfl, hR6.row (w.heap.size + 1) _ (fun b off e => by have := HG.out.1 b off e; omega) (fun b off e => by have := HG.out.2 b off e; omega), below_setRow hT6.b (Nat.le_succ _) _, fun b off e => by have := HG.out.1 b off e; omega, fun b off e => by have := HG.out.2 b off e; omega⟩
            | false =>
              rw [eq] at hn
              go_upto_region 12 with (first | (refine wpList_load_fing rfl 23 (.tmp 43) rfl w.heap.size 4 rfl x.fing _ HRG.out Tryd.underlying23 rfl (fing_size x) ?_) | (refine wpList_load_row_n rfl 23 (.tmp 6) rfl B6 rfl 23 (tabZ x l 16).fing (0, 0) _ hF6 Tryd.underlying23 rfl (fing_size _) ?_))
              refine wp_region_lit ?_
              (refine wpList_load_row_n rfl 23 (.tmp 6) rfl B6 rfl 23 (tabZ x l 16).fing (0, 0) _ hF6 Tryd.underlying23 rfl (fing_size _) ?_)
              go_upto_region 13 with (refine wpList_store_mid rfl 23 (.tmp 48) (.tmp 47) rfl w.heap.size 4 (tabZ x l 16).fing rfl rfl (VBox.there4 (z := tabZ x l 16) hT6.box) (fing_size _) (fing_one _) ?_)
              refine name_world fun W7 hW7 => ?_
              have hT7 : Two w W7 w.heap.size (w.heap.size + 1) (tabQ x l 16) View.zero E1 f1 E2 f2 none 0 none 0 := by
                rw [← hW7]
                exact ⟨hT6.box.setFing rfl rfl rfl rfl (fun k hk => by simp [tabQ, tabZ, hk]), (heap_setCells _ (Nat.succ_ne_self _) _ _ _).trans hT6.res, below_setCells _ (Nat.le_refl _) _ _ _ hT6.b⟩
              have hR7 : RepV W7 (tabQ x l 16) E1 f1 E2 f2 := by
                rw [← hW7]
                exact ⟨hR.out.base.heap3 (by rw [size_setCells]; exact Nat.le_refl _) (fun hn b off e => heap_setCells _ (by have := HG.out.1 b off e; omega) _ _ _), hR.out.list.heap3 (by rw [size_setCells]; exact Nat.le_refl _) (fun hn b off e => heap_setCells _ (by have := HG.out.2 b off e; omega) _ _ _)⟩
              clear hW7
              refine wp_region_lit ?_
              (refine wpList_load_view (t := 2) (tabQ x l 16) E1 E2 f1 f2 w.heap.size ?hg ?hw ?hx ?_; (case hg => exact hT7.box); (case hw => rfl); (case hx => rfl))
              (refine wpList_store_row rfl 25 (.tmp 4) (.tmp 49) rfl (w.heap.size + 1) ((tabQ x l 16).cells E1 f1 E2 f2) rfl rfl 25 (View.zero.cells none 0 none 0) hT7.res (view_size _ _ _ _ _) rfl (View.oneCell _ _ _ _ _) ?_)
              go_wp2
              refine bodyPost_ret (results_cell_tmp rfl _ _ (w.heap.size + 1) 25 ((tabQ x l 16).cells E1 f1 E2 f2) (0, 0) _ rfl (hT7.res.setRow (tabQ x l 16) E1 E2 f1 f2) Tryd.underlying25 rfl (view_size _ _ _ _ _)) rfl ?_
              rw [HR.out.1, HR.out.2]
              exact ⟨E1, f1, E2, f2, rfl, hR7.row (w.heap.size + 1) _ (fun b off e => by have := HG.out.1 b off e; omega) (fun b off e => by have := HG.out.2 b off e; omega), below_setRow hT7.b (Nat.le_succ _) _, fun b off e => by have := HG.out.1 b off e; omega, fun b off e => by have := HG.out.2 b off e; omega⟩
end Go.Proofs.YtbjgfcempfpfcaaDoor
