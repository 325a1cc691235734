/- Contract: a view with another list (the reference's); the plain law of going through fingers. -/
import Derived.Test.YtbjgfcempfpfcaaDoorCO
namespace Go.Proofs.YtbjgfcempfpfcaaDoor
open Go.RowKit Go.Shelf

def listedV (x : View) (l : List Int) : View := if rightV x && rightL x.id l then x.withList l else x
set_option maxRecDepth 100000 in
set_option maxHeartbeats 4000000 in
theorem r13_Listed (x : View) (A1 A2 : Option Addr) (c1 c2 : Nat) (A3 : Option Addr) (c3 : Nat) (l : List Int) (w : World) (h : RepV w x A1 c1 A2 c2) (hs : Sl w A3 c3 l) :
    Calls Tryd.prog 27 #[x.v A1 c1 A2 c2, .slice A3 l.length c3] w (RetV w (listedV x l)) := by
  obtain ⟨i0, hi, hz0, hz1, hz2⟩ := info_parts Tryd.info_int
  have hsm := hs.small
  unfold View.v
  go_enter Tryd.func27, Tryd.ntmps27
  go_upto_region 1 with (fail)
  refine name_world fun W0 hW0 => ?_
  have hT := two_start hW0
  clear hW0
  refine wp_region_lit ?_
  (refine wpList_load_view (t := 2) x A1 A2 c1 c2 w.heap.size ?hg ?hw ?hx ?_; (case hg => exact hT.box); (case hw => rfl); (case hx => rfl))
  go_upto_region 2 with (first | (go_at_call 43; refine (r13_Own x A1 A2 c1 c2 _ ⟨h.base.below hT.b, h.list.below hT.b⟩).mono ?_; rintro e W1 ⟨E1, f1, E2, f2, rfl, hr1, hb1, hf1, hf2⟩; have hT1 := hT.below (Nat.le_refl _) (Nat.le_succ _) hb1) | (refine wpList_store_row rfl 25 (.tmp 2) (.tmp 6) rfl w.heap.size (x.cells E1 f1 E2 f2) rfl rfl 25 (x.cells A1 c1 A2 c2) hT1.box (view_size _ _ _ _ _) rfl (View.oneCell _ _ _ _ _) ?_))
  refine name_world fun W2 hW2 => ?_
  have z1 := hb1.size
  have z2 := hT.res.lt
  have hT2 : Two w W2 w.heap.size (w.heap.size + 1) x View.zero E1 f1 E2 f2 none 0 none 0 := by rw [← hW2]; exact hT1.setRow (Nat.le_refl _) (Nat.succ_ne_self _)
  have hR2 : RepV W2 x E1 f1 E2 f2 := by rw [← hW2]; exact hr1.row _ _ (fun b off e => by have := hf1 b off e; omega) (fun b off e => by have := hf2 b off e; omega)
  have g1 : ∀ b off, E1 = some ⟨b, off, none⟩ → w.heap.size + 1 < b := fun b off e => by have := hf1 b off e; omega
  have g2 : ∀ b off, E2 = some ⟨b, off, none⟩ → w.heap.size + 1 < b := fun b off e => by have := hf2 b off e; omega
  have HG := Lib.hid (And.intro g1 g2)
  clear hW2 hT1 hT hb1 hr1 hf1 hf2 g1 g2 z1 z2
  cases e1 : rightV x
  case false =>
    have HR := Lib.hid (show listedV x l = x by simp [listedV, e1])
    go_upto_region 4 with (first | (refine wpList_load_view (t := 2) x E1 E2 f1 f2 w.heap.size ?hg ?hw ?hx ?_; (case hg => exact hT2.box); (case hw => rfl); (case hx => rfl)) | (go_at_call 25; refine (r13_Right x E1 E2 f1 f2 _ hR2.base hR2.list).mono ?_; rintro e W3 ⟨he, hb3⟩; rw [e1] at he; subst he; have hT3 := hT2.below (Nat.le_refl _) (Nat.le_succ _) hb3; have hR3 := hR2.below hb3; have p0 := hT3.box.cells.1))
    refine wp_region_lit ?_
    (refine wpList_load_view (t := 2) x E1 E2 f1 f2 w.heap.size ?hg ?hw ?hx ?_; (case hg => exact hT3.box); (case hw => rfl); (case hx => rfl))
    (refine wpList_store_row rfl 25 (.tmp 4) (.tmp 19) rfl (w.heap.size + 1) (x.cells E1 f1 E2 f2) rfl rfl 25 (View.zero.cells none 0 none 0) hT3.res (view_size _ _ _ _ _) rfl (View.oneCell _ _ _ _ _) ?_)
    go_wp2
    refine bodyPost_ret (results_cell_row rfl _ _ (w.heap.size + 1) 25 (x.cells E1 f1 E2 f2) (0, 0) _ rfl (hT3.res.setRow x E1 E2 f1 f2) Tryd.underlying25 rfl (view_size _ _ _ _ _)) rfl ?_
    rw [HR.out]
    exact ⟨E1, f1, E2, f2, rfl, hR3.row (w.heap.size + 1) _ (fun b off e => by have := HG.out.1 b off e; omega) (fun b off e => by have := HG.out.2 b off e; omega), below_setRow hT3.b (Nat.le_succ _) _, fun b off e => by have := HG.out.1 b off e; omega, fun b off e => by have := HG.out.2 b off e; omega⟩
  case true =>
    cases e2 : rightL x.id l
    case false =>
      have HR := Lib.hid (show listedV x l = x by simp [listedV, e2])
      go_upto_region 4 with (first | (refine wpList_load_view (t := 2) x E1 E2 f1 f2 w.heap.size ?hg ?hw ?hx ?_; (case hg => exact hT2.box); (case hw => rfl); (case hx => rfl)) | (go_at_call 25; refine (r13_Right x E1 E2 f1 f2 _ hR2.base hR2.list).mono ?_; rintro e W3 ⟨he, hb3⟩; rw [e1] at he; subst he; have hT3 := hT2.below (Nat.le_refl _) (Nat.le_succ _) hb3; have hR3 := hR2.below hb3; have p0 := hT3.box.cells.1) | (go_at_call 34; refine (r12_Right x.id A3 c3 l _ (hs.below hT3.b)).mono ?_; rintro e w' ⟨he, n1, rfl⟩; rw [e2] at he; subst he))
      have hT4 := hT3.below (Nat.le_refl _) (Nat.le_succ _) (below_drewN W3 _ n1)
      have hR4 := hR3.below (below_drewN W3 _ n1)
      refine wp_region_lit ?_
      (refine wpList_load_view (t := 2) x E1 E2 f1 f2 w.heap.size ?hg ?hw ?hx ?_; (case hg => exact hT4.box); (case hw => rfl); (case hx => rfl))
      (refine wpList_store_row rfl 25 (.tmp 4) (.tmp 19) rfl (w.heap.size + 1) (x.cells E1 f1 E2 f2) rfl rfl 25 (View.zero.cells none 0 none 0) hT4.res (view_size _ _ _ _ _) rfl (View.oneCell _ _ _ _ _) ?_)
      go_wp2
      refine bodyPost_ret (results_cell_row rfl _ _ (w.heap.size + 1) 25 (x.cells E1 f1 E2 f2) (0, 0) _ rfl (hT4.res.setRow x E1 E2 f1 f2) Tryd.underlying25 rfl (view_size _ _ _ _ _)) rfl ?_
      rw [HR.out]
      exact ⟨E1, f1, E2, f2, rfl, hR4.row (w.heap.size + 1) _ (fun b off e => by have := HG.out.1 b off e; omega) (fun b off e => by have := HG.out.2 b off e; omega), below_setRow hT4.b (Nat.le_succ _) _, fun b off e => by have := HG.out.1 b off e; omega, fun b off e => by have := HG.out.2 b off e; omega⟩
    case true =>
      have HR := Lib.hid (show listedV x l = x.withList l by simp [listedV, e1, e2])
      go_upto_region 3 with (first | (refine wpList_load_view (t := 2) x E1 E2 f1 f2 w.heap.size ?hg ?hw ?hx ?_; (case hg => exact hT2.box); (case hw => rfl); (case hx => rfl)) | (go_at_call 25; refine (r13_Right x E1 E2 f1 f2 _ hR2.base hR2.list).mono ?_; rintro e W3 ⟨he, hb3⟩; rw [e1] at he; subst he; have hT3 := hT2.below (Nat.le_refl _) (Nat.le_succ _) hb3; have hR3 := hR2.below hb3; have p0 := hT3.box.cells.1) | (go_at_call 34; refine (r12_Right x.id A3 c3 l _ (hs.below hT3.b)).mono ?_; rintro e w' ⟨he, n1, rfl⟩; rw [e2] at he; subst he))
      refine name_world fun W4 hW4 => ?_
      have hT4 : Two w W4 w.heap.size (w.heap.size + 1) x View.zero E1 f1 E2 f2 none 0 none 0 := by rw [← hW4]; exact hT3.below (Nat.le_refl _) (Nat.le_succ _) (below_drewN W3 _ n1)
      have hR4 : RepV W4 x E1 f1 E2 f2 := by rw [← hW4]; exact hR3.below (below_drewN W3 _ n1)
      clear hW4 hT3 hR3 p0
      go_upto_region 4 with (at_builtin; refine wpList_append_sl _ rfl (.tmp 15) (.tmp 16) _ rfl W4.heap.size 3 i0 _ 8 Tryd.underlying22 hi hz0 hz1 hz2 rfl (.slice (some ⟨W4.heap.size, 0, none⟩) 0 0) 0 [] rfl (World.ownsRow_lit W4 #[] 0 (Nat.le_refl _) (Nat.zero_le _) rfl) A3 c3 l rfl ((hs.below hT4.b).alloc _) ?h1 ?h2 ?h3 ?_; (case h1 => simp only [maxLen]; omega); (case h2 => omega); (case h3 => simp); intro v1 w2 hown1 hg1 hat1; obtain ⟨F2, k2, rfl, hs2, hf2, hb5⟩ := append_new hown1 hg1 hsm; have hT5 := hT4.below (Nat.le_refl _) (Nat.le_succ _) hb5; have hR5 := hR4.below hb5; have p2 := hT5.box.cells.2.2.1; have p4 := hT5.box.frozen; clear hown1 hg1 hat1)
      refine name_world fun W6 hW6 => ?_
      have z4 := hT4.res.lt
      have hT6 : Two w W6 w.heap.size (w.heap.size + 1) (x.withList l) View.zero E1 f1 F2 k2 none 0 none 0 := by
        rw [← hW6]; exact ⟨hT5.box.setList F2 k2 l, hT5.res.other (p := ⟨w.heap.size, 2, none⟩) (Nat.succ_ne_self _) _, hT5.b.setCell (p := ⟨w.heap.size, 2, none⟩) (Nat.le_refl _) _⟩
      have hR6 : RepV W6 (x.withList l) E1 f1 F2 k2 := by
        rw [← hW6]; exact ⟨hR5.base.set _ _ (fun b off e => by have := HG.out.1 b off e; show b ≠ w.heap.size; omega), hs2.set _ _ (fun b off e => by have := hf2 b off e; show b ≠ w.heap.size; omega)⟩
      have HG := Lib.hid (And.intro HG.out.1 (show ∀ b off, F2 = some ⟨b, off, none⟩ → w.heap.size + 1 < b from fun b off e => by have := hf2 b off e; omega))
      clear hW6 hT4 hR4 hT5 hR5 p2 p4 hs2 hf2 hb5
      refine wp_region_lit ?_
      (refine wpList_load_view (t := 2) (x.withList l) E1 F2 f1 k2 w.heap.size ?hg ?hw ?hx ?_; (case hg => exact hT6.box); (case hw => rfl); (case hx => rfl))
      (refine wpList_store_row rfl 25 (.tmp 4) (.tmp 19) rfl (w.heap.size + 1) ((x.withList l).cells E1 f1 F2 k2) rfl rfl 25 (View.zero.cells none 0 none 0) hT6.res (view_size _ _ _ _ _) rfl (View.oneCell _ _ _ _ _) ?_)
      go_wp2
      refine bodyPost_ret (results_cell_row rfl _ _ (w.heap.size + 1) 25 ((x.withList l).cells E1 f1 F2 k2) (0, 0) _ rfl (hT6.res.setRow (x.withList l) E1 F2 f1 k2) Tryd.underlying25 rfl (view_size _ _ _ _ _)) rfl ?_
      rw [HR.out]
      exact ⟨E1, f1, F2, k2, rfl, hR6.row (w.heap.size + 1) _ (fun b off e => by have := HG.out.1 b off e; omega) (fun b off e => by have := HG.out.2 b off e; omega), below_setRow hT6.b (Nat.le_succ _) _, fun b off e => by have := HG.out.1 b off e; omega, fun b off e => by have := HG.out.2 b off e; omega⟩

theorem own_unique {l : List Int} (hp : allPl l = true) (h0 : 0 < l.length) {key c : Int} (hc : c ∈ l) (hm : ∀ b ∈ l, far key c ≤ far key b) : ownL key l = c := by
  obtain ⟨a1, a2⟩ := own_spec hp h0 key
  have c1 := a2 _ hc
  have c2 := hm _ a1
  rw [allPl, List.all_eq_true] at hp
  have d1 := hp _ a1
  have d2 := hp _ hc
  rw [isPl_iff] at d1 d2
  unfold far at c1 c2
  omega
/-- What is told at once is as of the table. -/
theorem once_tab {y : View} {l : List Int} (hr : rightV y = true) (hp : allPl l = true) (h0 : 0 < l.length) (hf : ownL (y.id + 1) l = firstV y) {k : Nat} (hk : k < 16) (ho : onceF y k = true) : tabN y l k = firstV y := by
  obtain ⟨f1, f2⟩ := first_place hr
  obtain ⟨a1, a2⟩ := own_spec hp h0 (y.id + 1)
  rw [hf] at a1 a2
  rw [once_iff hr hk, decide_eq_true_eq, far_start hk] at ho
  have hpw := pow_small hk
  have hid := right_id hr
  have hs : startF y.id k = place (y.id + 2 ^ k) := startF_mid hk
  have key : ownL (startF y.id k) l = firstV y := by
    refine own_unique hp h0 a1 fun b hb => ?_
    have hb2 := a2 b hb
    rw [allPl, List.all_eq_true] at hp
    have hb1 := hp _ hb
    rw [isPl_iff] at f1 hb1
    rw [bne_iff_ne] at f2
    rw [hs]
    generalize (2 : Int) ^ k = p at hpw ho ⊢
    unfold far place at *
    omega
  rw [tabN, key]
  exact other_ne (by simpa using f2)
theorem tabQ_right {y : View} {l : List Int} (hr : rightV y = true) (hp : allPl l = true) (h0 : 0 < l.length) (k : Nat) : rightV (tabQ y l k) = true :=
  right_fing hr rfl rfl rfl rfl fun j hj => by
    show other y.id (if j < k then tabN y l j else y.f j) = true
    split
    · obtain ⟨a1, -⟩ := own_spec hp h0 (startF y.id j)
      rw [allPl, List.all_eq_true] at hp
      have := hp _ a1
      unfold tabN otherF
      split
      · simp [other]
      · rename_i hne
        simp only [other, this, Bool.true_and, Bool.or_eq_true]
        right; simpa using hne
    · exact fing_other hr hj
theorem once_tabQ {y : View} {l : List Int} (hr : rightV y = true) (hp : allPl l = true) (h0 : 0 < l.length) (k : Nat) (i : Int) : onceF (tabQ y l k) i = onceF y i :=
  (once_same (show rightV (tabQ y l k) = rightV y from (tabQ_right hr hp h0 k).trans hr.symm) rfl rfl rfl i).1
theorem walkTo_same {y z : View} (h : ∀ i : Nat, onceF z i = onceF y i) : ∀ n i, walkTo z n i = walkTo y n i
  | 0, _ => rfl
  | n + 1, i => by simp only [walkTo, h, walkTo_same h n]
theorem walkJ_tabQ {y : View} {l : List Int} (hr : rightV y = true) (hp : allPl l = true) (h0 : 0 < l.length) (k i : Nat) : walkJ (tabQ y l k) i = walkJ y i :=
  walkTo_same (fun _ => once_tabQ hr hp h0 k _) 16 i
/-- One stretch of the way. -/
theorem walk_tab {y : View} {l : List Int} (hr : rightV y = true) (hp : allPl l = true) (h0 : 0 < l.length) (hf : ownL (y.id + 1) l = firstV y) {i : Nat} (hi : i < 16) :
    walkV (tabQ y l i) i = tabQ y l (walkJ y i) ∧ walkM (tabQ y l i) i = decide (walkJ y i < 16) ∧ (walkJ y i < 16 → walkN (tabQ y l i) i = walkJ y i ∧ walkK (tabQ y l i) i = startF y.id (walkJ y i)) := by
  have hz := tabQ_right hr hp h0 i
  have hs : startI (tabQ y l i) (i : Int) = i := by simp [startI, knownF, hz]; omega
  have he : walkE (tabQ y l i) (i : Int) = walkJ y i := by rw [walkE, hs, walkJ_tabQ hr hp h0]
  have hfi : firstV (tabQ y l i) = firstV y := first_same (hz.trans hr.symm) rfl rfl rfl
  have hm : walkM (tabQ y l i) i = decide (walkJ y i < 16) := by rw [walkM, hz, he, Bool.true_and]
  refine ⟨?_, hm, fun hj => ?_⟩
  · rw [walkV, hz, if_pos rfl, hs, he]
    unfold setR
    rw [hfi]
    have hge := walkJ_ge y i
    have hle := walkJ_le (x := y) (i := i) (by omega)
    have : (fun j => if i ≤ j ∧ j < walkJ y i then firstV y else (tabQ y l i).f j) = fun j => if j < walkJ y i then tabN y l j else y.f j := by
      funext j
      by_cases h1 : i ≤ j ∧ j < walkJ y i
      · rw [if_pos h1, if_pos h1.2, once_tab hr hp h0 hf (by omega) (walkJ_all h1.1 h1.2)]
      · rw [if_neg h1]
        show (if j < i then tabN y l j else y.f j) = _
        by_cases h2 : j < i
        · rw [if_pos h2, if_pos (by omega)]
        · rw [if_neg h2, if_neg (by omega)]
    rw [this]; rfl
  · have hm2 : walkM (tabQ y l i) i = true := by rw [hm]; simpa using hj
    exact ⟨by rw [walkN, hm2, if_pos rfl, he], by rw [walkK, hm2, if_pos rfl, he]; rfl⟩
end Go.Proofs.YtbjgfcempfpfcaaDoor
