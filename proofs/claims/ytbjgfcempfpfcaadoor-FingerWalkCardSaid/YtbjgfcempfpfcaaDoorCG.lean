/- Contract: the reference's Walk; a view whose fingers are its first one may be. -/
import Derived.Test.YtbjgfcempfpfcaaDoorCF
namespace Go.Proofs.YtbjgfcempfpfcaaDoor
open Go.RowKit Go.Shelf

theorem finger_Walk (x : View) (A1 A2 : Option Addr) (c1 c2 : Nat) (i : Int) (w : World) (h : RepV w x A1 c1 A2 c2) (hs : Steps w) :
    Calls Tryd.prog 21 #[x.v A1 c1 A2 c2, .int .i64 i] w (RetW w (walkV x i) (walkN x i) (walkK x i) (walkM x i)) := by
  cases hr : rightV x with
  | true => exact finger_Walk_good x A1 A2 c1 c2 i w h hs hr
  | false => exact finger_Walk_bad x A1 A2 c1 c2 i w h hs hr

theorem own_min (key : Int) {l : List Int} : ∀ k, k + 1 ≤ l.length → isPl (ownT key l (k + 1)) = true ∧ ∀ j, j < k + 1 → far key (ownT key l (k + 1)) ≤ far key (nth l j)
  | 0, hk => by
    rw [ownT_one key (by omega)]
    refine ⟨by rw [isPl_iff]; exact ⟨place_nonneg _, place_lt _⟩, fun j hj => ?_⟩
    obtain rfl : j = 0 := by omega
    rw [far_place_eq]; exact Int.le_refl _
  | k + 1, hk => by
    obtain ⟨h1, h2⟩ := own_min key (l := l) k (by omega)
    rw [ownT_next key (by omega), ownS]
    split
    · rename_i hlt
      refine ⟨by rw [isPl_iff]; exact ⟨place_nonneg _, place_lt _⟩, fun j hj => ?_⟩
      rw [far_place_eq]
      rcases Nat.lt_or_ge j (k + 1) with h | h
      · exact Int.le_of_lt (Int.lt_of_lt_of_le hlt (h2 j h))
      · obtain rfl : j = k + 1 := by omega
        exact Int.le_refl _
    · rename_i hlt
      refine ⟨h1, fun j hj => ?_⟩
      rcases Nat.lt_or_ge j (k + 1) with h | h
      · exact h2 j h
      · obtain rfl : j = k + 1 := by omega
        omega
theorem base_at {x : View} (h : rightV x = true) {k : Nat} (hk : k < x.base.length) : baseOk x.base k = true := by
  simp only [rightV, Bool.and_eq_true] at h
  exact (allTo_iff _ _).1 h.1.2 k hk
theorem anchor_other {x : View} (h : rightV x = true) : isPl (anchorV x) = true ∧ (anchorV x != x.id) = true := by
  have h2 := right_base h
  have hid := right_id h
  obtain ⟨k, hk⟩ : ∃ k, x.base.length = k + 1 := ⟨x.base.length - 1, by omega⟩
  obtain ⟨m1, m2⟩ := own_min (x.id + 1) (l := x.base) k (by omega)
  rw [← hk, ownT_all] at m1 m2
  rw [anchor_yes h]
  refine ⟨m1, ?_⟩
  rw [bne_iff_ne]
  intro e
  rw [e] at m2
  have a0 := m2 0 (by omega)
  have a1 := m2 1 (by omega)
  have b0 := base_at h (k := 0) (by omega)
  have b1 := base_at h (k := 1) (by omega)
  simp only [baseOk, Bool.and_eq_true, isPl_iff] at b0 b1
  have b2 := b1.2
  simp at b2
  unfold far at a0 a1
  omega
theorem list_at {x : View} (h : rightV x = true) {k : Nat} (hk : k < x.list.length) : okAt x.id x.list k = true := by
  simp only [rightV, headOk, rightL, Bool.and_eq_true] at h
  exact (allTo_iff _ _).1 h.1.1.1.2.1 k hk
theorem first_place {x : View} (h : rightV x = true) : isPl (firstV x) = true ∧ (firstV x != x.id) = true := by
  rcases Nat.eq_zero_or_pos x.list.length with h0 | h0
  · rw [first_none h0]; exact anchor_other h
  · rw [first_list h h0]
    have h1 := list_at h h0
    simp only [okAt, before, if_true, far_self, Bool.and_eq_true, decide_eq_true_eq] at h1
    refine ⟨h1.1, ?_⟩
    rw [bne_iff_ne]; intro e; rw [e, far_self] at h1; omega
theorem first_other {x : View} (h : rightV x = true) : other x.id (firstV x) = true := by
  have := first_place h
  simp [other, this.1, this.2]
theorem right_fing {x y : View} (h : rightV x = true) (e1 : y.id = x.id) (e2 : y.base = x.base) (e3 : y.list = x.list) (e4 : y.pred = x.pred) (hf : ∀ k, k < 16 → other x.id (y.f k) = true) : rightV y = true := by
  simp only [rightV, headOk, Bool.and_eq_true] at h ⊢
  rw [e1, e2, e3, e4]
  exact ⟨h.1, (allTo_iff _ _).2 hf⟩
theorem fing_other {x : View} (h : rightV x = true) {k : Nat} (hk : k < 16) : other x.id (x.f k) = true := by
  simp only [rightV, Bool.and_eq_true] at h
  exact (allTo_iff _ _).1 h.2 k hk
theorem setR_right {x : View} (h : rightV x = true) (a b : Nat) : rightV (setR x a b) = true :=
  right_fing h rfl rfl rfl rfl fun k hk => by
    show other x.id (if a ≤ k ∧ k < b then firstV x else x.f k) = true
    split
    · exact first_other h
    · exact fing_other h hk
theorem first_same {x y : View} (hr : rightV y = rightV x) (e1 : y.id = x.id) (e2 : y.base = x.base) (e3 : y.list = x.list) : firstV y = firstV x := by
  simp only [firstV, anchorV, hr, e1, e2, e3]
theorem once_same {x y : View} (hr : rightV y = rightV x) (e1 : y.id = x.id) (e2 : y.base = x.base) (e3 : y.list = x.list) (i : Int) : onceF y i = onceF x i ∧ onceP y i = onceP x i := by
  have h1 : onceF y i = onceF x i := by simp only [onceF, knownF, hr, e1, first_same hr e1 e2 e3]
  exact ⟨h1, by simp only [onceP, h1, first_same hr e1 e2 e3]⟩
theorem once_setR {x : View} (h : rightV x = true) (a b : Nat) (i : Int) : onceF (setR x a b) i = onceF x i ∧ onceP (setR x a b) i = onceP x i :=
  once_same (show rightV (setR x a b) = rightV x from (setR_right h a b).trans h.symm) rfl rfl rfl i

set_option maxRecDepth 100000 in
set_option maxHeartbeats 4000000 in
theorem r17_Walk (x : View) (A1 A2 : Option Addr) (c1 c2 : Nat) (i : Int) (w : World) (h : RepV w x A1 c1 A2 c2) :
    Calls Tryd.prog 22 #[x.v A1 c1 A2 c2, .int .i64 i] w (RetW w (walkV x i) (walkN x i) (walkK x i) (walkM x i)) := by
  unfold View.v
  go_enter Tryd.func22, Tryd.ntmps22
  go_upto_region 1 with (fail)
  refine name_world fun W0 hW0 => ?_
  have hT := two_start hW0
  clear hW0
  refine wp_region_lit ?_
  (refine wpList_load_view (t := 2) x A1 A2 c1 c2 w.heap.size ?hg ?hw ?hx ?_; (case hg => exact hT.box); (case hw => rfl); (case hx => rfl))
  go_upto_region 2 with (first | (go_at_call 43; refine (r13_Own x A1 A2 c1 c2 _ ⟨h.base.below hT.b, h.list.below hT.b⟩).mono ?_; rintro e W1 ⟨E1, f1, E2, f2, rfl, hr1, hb1, hf1, hf2⟩; have hT1 := hT.below (Nat.le_refl _) (Nat.le_succ _) hb1) | (refine wpList_store_row rfl 25 (.tmp 2) (.tmp 11) rfl w.heap.size (x.cells E1 f1 E2 f2) rfl rfl 25 (x.cells A1 c1 A2 c2) hT1.box (view_size _ _ _ _ _) rfl (View.oneCell _ _ _ _ _) ?_))
  refine name_world fun W2 hW2 => ?_
  have z1 := hb1.size
  have z2 := hT.res.lt
  have hT2 : Two w W2 w.heap.size (w.heap.size + 1) x View.zero E1 f1 E2 f2 none 0 none 0 := by rw [← hW2]; exact hT1.setRow (Nat.le_refl _) (Nat.succ_ne_self _)
  have hR2 : RepV W2 x E1 f1 E2 f2 := by rw [← hW2]; exact hr1.row _ _ (fun b off e => by have := hf1 b off e; omega) (fun b off e => by have := hf2 b off e; omega)
  have g1 : ∀ b off, E1 = some ⟨b, off, none⟩ → w.heap.size + 1 < b := fun b off e => by have := hf1 b off e; omega
  have g2 : ∀ b off, E2 = some ⟨b, off, none⟩ → w.heap.size + 1 < b := fun b off e => by have := hf2 b off e; omega
  have HG := Lib.hid (And.intro g1 g2)
  clear hW2 hT1 hT hb1 hr1 hf1 hf2 g1 g2 z1 z2
  cases hr : rightV x
  case false =>
    have HW := Lib.hid (walk_bad hr i)
    go_upto_region 3 with (first | (refine wpList_load_view (t := 2) x E1 E2 f1 f2 w.heap.size ?hg ?hw ?hx ?_; (case hg => exact hT2.box); (case hw => rfl); (case hx => rfl)) | (go_at_call 25; refine (r13_Right x E1 E2 f1 f2 _ hR2.base hR2.list).mono ?_; rintro e W3 ⟨he, hb3⟩; rw [hr] at he; subst he; have hT3 := hT2.below (Nat.le_refl _) (Nat.le_succ _) hb3; have hR3 := hR2.below hb3))
    refine wp_region_lit ?_
    (refine wpList_load_view (t := 2) x E1 E2 f1 f2 w.heap.size ?hg ?hw ?hx ?_; (case hg => exact hT3.box); (case hw => rfl); (case hx => rfl))
    (refine wpList_store_row rfl 25 (.tmp 4) (.tmp 15) rfl (w.heap.size + 1) (x.cells E1 f1 E2 f2) rfl rfl 25 (View.zero.cells none 0 none 0) hT3.res (view_size _ _ _ _ _) rfl (View.oneCell _ _ _ _ _) ?_)
    go_wp2
    refine bodyPost_ret (results_cell_tmp3 (p := 4) (t := 5) (u := 6) (v := 7) rfl _ _ (w.heap.size + 1) 25 (x.cells E1 f1 E2 f2) (0, 0) _ rfl (hT3.res.setRow x E1 E2 f1 f2) Tryd.underlying25 rfl (view_size _ _ _ _ _)) rfl ?_
    rw [HW.out.1, HW.out.2.1, HW.out.2.2.1, HW.out.2.2.2]
    exact ⟨E1, f1, E2, f2, rfl, hR3.row (w.heap.size + 1) _ (fun b off e => by have := HG.out.1 b off e; omega) (fun b off e => by have := HG.out.2 b off e; omega), below_setRow hT3.b (Nat.le_succ _) _, fun b off e => by have := HG.out.1 b off e; omega, fun b off e => by have := HG.out.2 b off e; omega⟩
  case true =>
    cases e2 : decide (i < 0)
    case true =>
      have hs0 : startI x i = 0 := by simp at e2; simp [startI, knownF]; omega
      have HS := Lib.hid (And.intro hs0 (show walkE x i = walkJ x 0 by rw [walkE, hs0]))
      go_upto_region 6 with (first | (refine wpList_load_view (t := 2) x E1 E2 f1 f2 w.heap.size ?hg ?hw ?hx ?_; (case hg => exact hT2.box); (case hw => rfl); (case hx => rfl)) | (go_at_call 25; refine (r13_Right x E1 E2 f1 f2 _ hR2.base hR2.list).mono ?_; rintro e W3 ⟨he, hb3⟩; rw [hr] at he; subst he; have hT3 := hT2.below (Nat.le_refl _) (Nat.le_succ _) hb3; have hR3 := hR2.below hb3))
      have hj16 : walkJ x 0 ≤ 16 := walkJ_le (by omega)
      have hjs := walkJ_ge x 0
      have HT0 := Lib.hid hT3
      have HR0 := Lib.hid hR3
      clear hT2 hR2 hT3 hR3 hb3 hs0
      go_wp2
      go_loopw [1] (fun t1 wr => ∃ k : Nat, 0 ≤ k ∧ k ≤ walkJ x 0 ∧ t1 = .int .i64 k ∧ Hid (Two w wr w.heap.size (w.heap.size + 1) (setR x 0 k) View.zero E1 f1 E2 f2 none 0 none 0) ∧ Hid (RepV wr x E1 f1 E2 f2)) (fun t1 _ => 16 - (intOf t1).toNat)
      case atStart => exact ⟨0, Nat.le_refl _, hjs, rfl, by rw [setR_none]; exact HT0, HR0⟩
      case round =>
        clear HT0 HR0
        obtain ⟨k, hk1, hk2, rfl, hT, hR⟩ := hrel
        have hy := setR_right hr 0 k
        obtain ⟨of1, of2⟩ := once_setR hr 0 k (k : Int)
        have hRy : RepV wr (setR x 0 k) E1 f1 E2 f2 := ⟨hR.out.base, hR.out.list⟩
        have HY := Lib.hid hRy
        clear hRy hy
        rcases Nat.lt_or_ge k (walkJ x 0) with hlt | hge
        · have eF := of1.trans (walkJ_all hk1 hlt)
          have eP : onceP (setR x 0 k) k = firstV x := of2.trans (by simp [onceP, walkJ_all hk1 hlt])
          have hk16 : k < 16 := by omega
          clear of1 of2
          go_upto_region 10 with (first | (refine wpList_load_view (t := 2) (setR x 0 k) E1 E2 f1 f2 w.heap.size ?hg ?hw ?hx ?_; (case hg => exact hT.out.box); (case hw => rfl); (case hx => rfl)) | (go_at_call 17; refine (r17_Once (setR x 0 k) E1 E2 f1 f2 _ _ HY.out).mono ?_; rintro e W6 ⟨he, hb6⟩; rw [eP, eF] at he; subst he; have hT6 := hT.out.below (Nat.le_refl _) (Nat.le_succ _) hb6; have hR6 := hR.out.below hb6; have p1 := hT6.box.finger hk16; have p2 := hT6.box.frozen))
          go_wp2
          go_roundw
          case rel => exact ⟨k + 1, by omega, hlt, by go_num, by rw [← setR_next x hk1]; exact Lib.hid (hT6.setF (Nat.le_refl _) (Nat.succ_ne_self _) hk16 _), Lib.hid (hR6.set _ _ (fun b off e => by have := HG.out.1 b off e; show b ≠ w.heap.size; omega) (fun b off e => by have := HG.out.2 b off e; show b ≠ w.heap.size; omega))⟩
          case measure => simp [intOf]; omega
        · obtain rfl : k = walkJ x 0 := by omega
          have eF := of1.trans (walkJ_end x 0)
          have eP : onceP (setR x 0 (walkJ x 0)) (walkJ x 0) = 0 := of2.trans (by simp [onceP, walkJ_end x 0])
          clear of1 of2
          by_cases hj : walkJ x 0 < 16
          · have HW := Lib.hid (show walkV x i = (setR x 0 (walkJ x 0)) ∧ walkN x i = walkJ x 0 ∧ walkK x i = startF x.id (walkJ x 0) ∧ walkM x i = true by
              have := walk_yes hr (i := i) (by rw [HS.out.2]; exact hj)
              rwa [HS.out.1, HS.out.2] at this)
            go_upto_region 9 with (first | (refine wpList_load_view (t := 2) (setR x 0 (walkJ x 0)) E1 E2 f1 f2 w.heap.size ?hg ?hw ?hx ?_; (case hg => exact hT.out.box); (case hw => rfl); (case hx => rfl)) | (go_at_call 17; refine (r17_Once (setR x 0 (walkJ x 0)) E1 E2 f1 f2 _ _ HY.out).mono ?_; rintro e W6 ⟨he, hb6⟩; rw [eP, eF] at he; subst he; have hT6 := hT.out.below (Nat.le_refl _) (Nat.le_succ _) hb6; have hR6 := hR.out.below hb6))
            refine wp_region_held_drew (S := (fun W' => VBox W' w.heap.size (setR x 0 (walkJ x 0)) E1 f1 E2 f2 ∧ RepV W' x E1 f1 E2 f2 ∧ Below w.heap.size w W')) (by kernel_rfl) ⟨hT6.box, hR6.below ((Below.refl _ _).drew), hT6.b.drew⟩ (fun hHeld => ?_)
            have hres : VBox W6.drew (w.heap.size + 1) View.zero none 0 none 0 := hT6.res
            refine wpAnyH_take (i := 0) (oi := { dst := some 32, op := Op.load 25 (Operand.tmp 2), type := 25, pos := "ref.go:53", after := #[], guard := none }) (v := .agg ((setR x 0 (walkJ x 0)).cells E1 f1 E2 f2)) rfl (by kernel_rfl) (by kernel_rfl) (by kernel_rfl) (fun _ _ _ h => h) (yields_view (t := 2) (setR x 0 (walkJ x 0)) E1 E2 f1 f2 w.heap.size (by kernel_rfl) rfl (fun w h => h.1)) hHeld ?_
            simp only [Act.put, List.setIfInBounds_toArray, List.set_cons_zero, List.set_cons_succ]
            refine wpAnyH_take (i := 1) (oi := { dst := some 33, op := Op.move (Operand.tmp 1), type := 3, pos := "ref.go:53", after := #[{ on := 6, ground := Ground.gcOnly Departure.lateStores }], guard := none }) (v := ?_) rfl (by kernel_rfl) (by kernel_rfl) (by kernel_rfl) (fun _ _ _ h => h) (Or.inl ⟨by kernel_rfl, ?_⟩) hHeld ?_
            rotate_left
            · intro w hSw; go_simp; try with_reducible rfl
            simp only [Act.put, List.setIfInBounds_toArray, List.set_cons_zero, List.set_cons_succ]
            refine wpAnyH_take (i := 2) (oi := { dst := some 34, op := Op.fieldAddr 25 (Operand.tmp 2) 0, type := 0, pos := "ref.go:53", after := #[], guard := none }) (v := ?_) rfl (by kernel_rfl) (by kernel_rfl) (by kernel_rfl) (fun _ _ _ h => h) (Or.inl ⟨by kernel_rfl, ?_⟩) hHeld ?_
            rotate_left
            · intro w hSw; go_simp; try with_reducible rfl
            simp only [Act.put, List.setIfInBounds_toArray, List.set_cons_zero, List.set_cons_succ]
            refine wpAnyH_take (i := 3) (oi := { dst := some 35, op := Op.load 3 (Operand.tmp 34), type := 3, pos := "ref.go:53", after := #[{ on := 2, ground := Ground.data }], guard := none }) (v := ?_) rfl (by kernel_rfl) (by kernel_rfl) (by kernel_rfl) (fun _ _ _ h => h) (Or.inl ⟨by kernel_rfl, ?_⟩) hHeld ?_
            rotate_left
            · intro w hSw; have k0 := hSw.1.cells.1; go_simp; try with_reducible rfl
            simp only [Act.put, List.setIfInBounds_toArray, List.set_cons_zero, List.set_cons_succ]
            refine wpAnyH_take (i := 4) (oi := { dst := some 36, op := Op.move (Operand.tmp 1), type := 3, pos := "ref.go:53", after := #[], guard := none }) (v := ?_) rfl (by kernel_rfl) (by kernel_rfl) (by kernel_rfl) (fun _ _ _ h => h) (Or.inl ⟨by kernel_rfl, ?_⟩) hHeld ?_
            rotate_left
            · intro w hSw; go_simp; try with_reducible rfl
            simp only [Act.put, List.setIfInBounds_toArray, List.set_cons_zero, List.set_cons_succ]
            refine wpAnyH_ready (rs := [5]) (by kernel_rfl) (by simp) ?_
            refine AllReadyH.cons (o := { dst := some 37, op := Op.call { callee := Callee.value (Operand.func 29), args := #[Operand.tmp 35, Operand.tmp 36], argTypes := #[3, 3] }, type := 3, pos := "ref.go:53", after := #[{ on := 3, ground := Ground.data }, { on := 4, ground := Ground.data }], guard := none }) rfl (fun K hK2 => ?_) AllReadyH.nil
            go_simp
            go_wp2_with (go_at_call 29; refine (r03_Start _ _ _).mono ?_; rintro e V1 ⟨rfl, rfl⟩)
            refine hK2.out _ _ hHeld (fun hHeld => ?_)
            clear hK2 K
            refine wpAnyH_ready (rs := [6]) (by kernel_rfl) (by simp) ?_
            refine AllReadyH.cons (o := { dst := none, op := Op.store 25 (Operand.tmp 4) (Operand.tmp 32), type := 0, pos := "ref.go:53", after := #[{ on := 0, ground := Ground.data }, { on := 5, ground := Ground.chain }, { on := 0, ground := Ground.phase }, { on := 1, ground := Ground.textOnly Departure.lateStores }, { on := 2, ground := Ground.textOnly Departure.lateStores }, { on := 3, ground := Ground.textOnly Departure.lateStores }, { on := 4, ground := Ground.textOnly Departure.lateStores }, { on := 5, ground := Ground.textOnly Departure.lateStoresUnsure }], guard := none }) rfl (fun K hK2 => ?_) AllReadyH.nil
            rw [if_pos (by kernel_rfl)]
            refine wp_store_row 25 (.tmp 4) (.tmp 32) rfl (w.heap.size + 1) ((setR x 0 (walkJ x 0)).cells E1 f1 E2 f2) rfl rfl 25 (View.zero.cells none 0 none 0) hres (view_size _ _ _ _ _) rfl (View.oneCell _ _ _ _ _) ?_
            dsimp only [Act.put]
            refine name_K fun W7 hW7 => ?_
            have hres7 : VBox W7 (w.heap.size + 1) (setR x 0 (walkJ x 0)) E1 f1 E2 f2 := by rw [← hW7]; exact hres.setRow (setR x 0 (walkJ x 0)) E1 E2 f1 f2
            have hB7 : Below w.heap.size w W7 := by rw [← hW7]; exact below_setRow hHeld.2.2 (Nat.le_succ _) _
            have hR7 : RepV W7 x E1 f1 E2 f2 := by rw [← hW7]; exact hHeld.2.1.row (w.heap.size + 1) _ (fun b off e => by have := HG.out.1 b off e; omega) (fun b off e => by have := HG.out.2 b off e; omega)
            refine hK2.out _ _ ⟨by rw [← hW7]; exact (heap_setRow _ _ _ _ (by omega)).trans hHeld.1, hR7, hB7⟩ (fun hHeld => ?_)
            clear hK2 K hW7
            refine wpAnyH_take (i := 7) (oi := { dst := some 5, op := Op.assign (Operand.tmp 33), type := 3, pos := "ref.go:53", after := #[{ on := 1, ground := Ground.data }, { on := 6, ground := Ground.chain }, { on := 0, ground := Ground.phase }, { on := 1, ground := Ground.phase }, { on := 2, ground := Ground.textOnly Departure.lateStores }, { on := 3, ground := Ground.textOnly Departure.lateStores }, { on := 4, ground := Ground.textOnly Departure.lateStores }, { on := 5, ground := Ground.textOnly Departure.lateStoresUnsure }, { on := 6, ground := Ground.phase }], guard := none }) (v := ?_) rfl (by kernel_rfl) (by kernel_rfl) (by kernel_rfl) (fun _ _ _ h => h) (Or.inl ⟨by kernel_rfl, ?_⟩) hHeld ?_
            rotate_left
            · intro w hSw; go_simp; try with_reducible rfl
            simp only [Act.put, List.setIfInBounds_toArray, List.set_cons_zero, List.set_cons_succ]
            refine wpAnyH_take (i := 8) (oi := { dst := some 6, op := Op.assign (Operand.tmp 37), type := 3, pos := "ref.go:53", after := #[{ on := 5, ground := Ground.data }, { on := 7, ground := Ground.chain }, { on := 0, ground := Ground.phase }, { on := 1, ground := Ground.phase }, { on := 2, ground := Ground.phase }, { on := 3, ground := Ground.phase }, { on := 4, ground := Ground.phase }, { on := 5, ground := Ground.phase }, { on := 6, ground := Ground.phase }, { on := 7, ground := Ground.phase }], guard := none }) (v := ?_) rfl (by kernel_rfl) (by kernel_rfl) (by kernel_rfl) (fun _ _ _ h => h) (Or.inl ⟨by kernel_rfl, ?_⟩) hHeld ?_
            rotate_left
            · intro w hSw; go_simp; try with_reducible rfl
            simp only [Act.put, List.setIfInBounds_toArray, List.set_cons_zero, List.set_cons_succ]
            refine wpAnyH_take (i := 9) (oi := { dst := some 7, op := Op.assign (Operand.const (Value.bool true)), type := 4, pos := "ref.go:53", after := #[{ on := 8, ground := Ground.chain }, { on := 0, ground := Ground.phase }, { on := 1, ground := Ground.phase }, { on := 2, ground := Ground.phase }, { on := 3, ground := Ground.phase }, { on := 4, ground := Ground.phase }, { on := 5, ground := Ground.phase }, { on := 6, ground := Ground.phase }, { on := 7, ground := Ground.phase }, { on := 8, ground := Ground.phase }], guard := none }) (v := ?_) rfl (by kernel_rfl) (by kernel_rfl) (by kernel_rfl) (fun _ _ _ h => h) (Or.inl ⟨by kernel_rfl, ?_⟩) hHeld ?_
            rotate_left
            · intro w hSw; go_simp; try with_reducible rfl
            simp only [Act.put, List.setIfInBounds_toArray, List.set_cons_zero, List.set_cons_succ]
            refine wpAnyH_done (by kernel_rfl) ?_ _
            go_wp2
            refine bodyPost_ret (results_cell_tmp3 (p := 4) (t := 5) (u := 6) (v := 7) rfl _ _ (w.heap.size + 1) 25 ((setR x 0 (walkJ x 0)).cells E1 f1 E2 f2) (0, 0) _ rfl hres7 Tryd.underlying25 rfl (view_size _ _ _ _ _)) rfl ?_
            rw [HW.out.1, HW.out.2.1, HW.out.2.2.1, HW.out.2.2.2]
            exact ⟨E1, f1, E2, f2, rfl, ⟨hR7.base, hR7.list⟩, hB7, fun b off e => by have := HG.out.1 b off e; omega, fun b off e => by have := HG.out.2 b off e; omega⟩
          · have HW := Lib.hid (show walkV x i = (setR x 0 (walkJ x 0)) ∧ walkN x i = 0 ∧ walkK x i = 0 ∧ walkM x i = false by
              have := walk_no hr (i := i) (by rw [HS.out.2]; exact hj)
              rwa [HS.out.1, HS.out.2] at this)
            have hT6 := hT.out
            have hR6 : RepV wr (setR x 0 (walkJ x 0)) E1 f1 E2 f2 := HY.out
            go_upto_region 12 with (fail)
            refine wp_region_lit ?_
            (refine wpList_load_view (t := 2) (setR x 0 (walkJ x 0)) E1 E2 f1 f2 w.heap.size ?hg ?hw ?hx ?_; (case hg => exact hT6.box); (case hw => rfl); (case hx => rfl))
            (refine wpList_store_row rfl 25 (.tmp 4) (.tmp 44) rfl (w.heap.size + 1) ((setR x 0 (walkJ x 0)).cells E1 f1 E2 f2) rfl rfl 25 (View.zero.cells none 0 none 0) hT6.res (view_size _ _ _ _ _) rfl (View.oneCell _ _ _ _ _) ?_)
            go_wp2
            refine bodyPost_ret (results_cell_tmp3 (p := 4) (t := 5) (u := 6) (v := 7) rfl _ _ (w.heap.size + 1) 25 ((setR x 0 (walkJ x 0)).cells E1 f1 E2 f2) (0, 0) _ rfl (hT6.res.setRow (setR x 0 (walkJ x 0)) E1 E2 f1 f2) Tryd.underlying25 rfl (view_size _ _ _ _ _)) rfl ?_
            rw [HW.out.1, HW.out.2.1, HW.out.2.2.1, HW.out.2.2.2]
            exact ⟨E1, f1, E2, f2, rfl, hR6.row (w.heap.size + 1) _ (fun b off e => by have := HG.out.1 b off e; omega) (fun b off e => by have := HG.out.2 b off e; omega), below_setRow hT6.b (Nat.le_succ _) _, fun b off e => by have := HG.out.1 b off e; omega, fun b off e => by have := HG.out.2 b off e; omega⟩
    case false =>
      cases e3 : decide (16 ≤ i)
      case true =>
        have hs0 : startI x i = 0 := by simp at e3; simp [startI, knownF]; omega
        have HS := Lib.hid (And.intro hs0 (show walkE x i = walkJ x 0 by rw [walkE, hs0]))
        go_upto_region 6 with (first | (refine wpList_load_view (t := 2) x E1 E2 f1 f2 w.heap.size ?hg ?hw ?hx ?_; (case hg => exact hT2.box); (case hw => rfl); (case hx => rfl)) | (go_at_call 25; refine (r13_Right x E1 E2 f1 f2 _ hR2.base hR2.list).mono ?_; rintro e W3 ⟨he, hb3⟩; rw [hr] at he; subst he; have hT3 := hT2.below (Nat.le_refl _) (Nat.le_succ _) hb3; have hR3 := hR2.below hb3))
        have hj16 : walkJ x 0 ≤ 16 := walkJ_le (by omega)
        have hjs := walkJ_ge x 0
        have HT0 := Lib.hid hT3
        have HR0 := Lib.hid hR3
        clear hT2 hR2 hT3 hR3 hb3 hs0
        go_wp2
        go_loopw [1] (fun t1 wr => ∃ k : Nat, 0 ≤ k ∧ k ≤ walkJ x 0 ∧ t1 = .int .i64 k ∧ Hid (Two w wr w.heap.size (w.heap.size + 1) (setR x 0 k) View.zero E1 f1 E2 f2 none 0 none 0) ∧ Hid (RepV wr x E1 f1 E2 f2)) (fun t1 _ => 16 - (intOf t1).toNat)
        case atStart => exact ⟨0, Nat.le_refl _, hjs, rfl, by rw [setR_none]; exact HT0, HR0⟩
        case round =>
          clear HT0 HR0
          obtain ⟨k, hk1, hk2, rfl, hT, hR⟩ := hrel
          have hy := setR_right hr 0 k
          obtain ⟨of1, of2⟩ := once_setR hr 0 k (k : Int)
          have hRy : RepV wr (setR x 0 k) E1 f1 E2 f2 := ⟨hR.out.base, hR.out.list⟩
          have HY := Lib.hid hRy
          clear hRy hy
          rcases Nat.lt_or_ge k (walkJ x 0) with hlt | hge
          · have eF := of1.trans (walkJ_all hk1 hlt)
            have eP : onceP (setR x 0 k) k = firstV x := of2.trans (by simp [onceP, walkJ_all hk1 hlt])
            have hk16 : k < 16 := by omega
            clear of1 of2
            go_upto_region 10 with (first | (refine wpList_load_view (t := 2) (setR x 0 k) E1 E2 f1 f2 w.heap.size ?hg ?hw ?hx ?_; (case hg => exact hT.out.box); (case hw => rfl); (case hx => rfl)) | (go_at_call 17; refine (r17_Once (setR x 0 k) E1 E2 f1 f2 _ _ HY.out).mono ?_; rintro e W6 ⟨he, hb6⟩; rw [eP, eF] at he; subst he; have hT6 := hT.out.below (Nat.le_refl _) (Nat.le_succ _) hb6; have hR6 := hR.out.below hb6; have p1 := hT6.box.finger hk16; have p2 := hT6.box.frozen))
            go_wp2
            go_roundw
            case rel => exact ⟨k + 1, by omega, hlt, by go_num, by rw [← setR_next x hk1]; exact Lib.hid (hT6.setF (Nat.le_refl _) (Nat.succ_ne_self _) hk16 _), Lib.hid (hR6.set _ _ (fun b off e => by have := HG.out.1 b off e; show b ≠ w.heap.size; omega) (fun b off e => by have := HG.out.2 b off e; show b ≠ w.heap.size; omega))⟩
            case measure => simp [intOf]; omega
          · obtain rfl : k = walkJ x 0 := by omega
            have eF := of1.trans (walkJ_end x 0)
            have eP : onceP (setR x 0 (walkJ x 0)) (walkJ x 0) = 0 := of2.trans (by simp [onceP, walkJ_end x 0])
            clear of1 of2
            by_cases hj : walkJ x 0 < 16
            · have HW := Lib.hid (show walkV x i = (setR x 0 (walkJ x 0)) ∧ walkN x i = walkJ x 0 ∧ walkK x i = startF x.id (walkJ x 0) ∧ walkM x i = true by
                have := walk_yes hr (i := i) (by rw [HS.out.2]; exact hj)
                rwa [HS.out.1, HS.out.2] at this)
              go_upto_region 9 with (first | (refine wpList_load_view (t := 2) (setR x 0 (walkJ x 0)) E1 E2 f1 f2 w.heap.size ?hg ?hw ?hx ?_; (case hg => exact hT.out.box); (case hw => rfl); (case hx => rfl)) | (go_at_call 17; refine (r17_Once (setR x 0 (walkJ x 0)) E1 E2 f1 f2 _ _ HY.out).mono ?_; rintro e W6 ⟨he, hb6⟩; rw [eP, eF] at he; subst he; have hT6 := hT.out.below (Nat.le_refl _) (Nat.le_succ _) hb6; have hR6 := hR.out.below hb6))
              refine wp_region_held_drew (S := (fun W' => VBox W' w.heap.size (setR x 0 (walkJ x 0)) E1 f1 E2 f2 ∧ RepV W' x E1 f1 E2 f2 ∧ Below w.heap.size w W')) (by kernel_rfl) ⟨hT6.box, hR6.below ((Below.refl _ _).drew), hT6.b.drew⟩ (fun hHeld => ?_)
              have hres : VBox W6.drew (w.heap.size + 1) View.zero none 0 none 0 := hT6.res
              refine wpAnyH_take (i := 0) (oi := { dst := some 32, op := Op.load 25 (Operand.tmp 2), type := 25, pos := "ref.go:53", after := #[], guard := none }) (v := .agg ((setR x 0 (walkJ x 0)).cells E1 f1 E2 f2)) rfl (by kernel_rfl) (by kernel_rfl) (by kernel_rfl) (fun _ _ _ h => h) (yields_view (t := 2) (setR x 0 (walkJ x 0)) E1 E2 f1 f2 w.heap.size (by kernel_rfl) rfl (fun w h => h.1)) hHeld ?_
              simp only [Act.put, List.setIfInBounds_toArray, List.set_cons_zero, List.set_cons_succ]
              refine wpAnyH_take (i := 1) (oi := { dst := some 33, op := Op.move (Operand.tmp 1), type := 3, pos := "ref.go:53", after := #[{ on := 6, ground := Ground.gcOnly Departure.lateStores }], guard := none }) (v := ?_) rfl (by kernel_rfl) (by kernel_rfl) (by kernel_rfl) (fun _ _ _ h => h) (Or.inl ⟨by kernel_rfl, ?_⟩) hHeld ?_
              rotate_left
              · intro w hSw; go_simp; try with_reducible rfl
              simp only [Act.put, List.setIfInBounds_toArray, List.set_cons_zero, List.set_cons_succ]
              refine wpAnyH_take (i := 2) (oi := { dst := some 34, op := Op.fieldAddr 25 (Operand.tmp 2) 0, type := 0, pos := "ref.go:53", after := #[], guard := none }) (v := ?_) rfl (by kernel_rfl) (by kernel_rfl) (by kernel_rfl) (fun _ _ _ h => h) (Or.inl ⟨by kernel_rfl, ?_⟩) hHeld ?_
              rotate_left
              · intro w hSw; go_simp; try with_reducible rfl
              simp only [Act.put, List.setIfInBounds_toArray, List.set_cons_zero, List.set_cons_succ]
              refine wpAnyH_take (i := 3) (oi := { dst := some 35, op := Op.load 3 (Operand.tmp 34), type := 3, pos := "ref.go:53", after := #[{ on := 2, ground := Ground.data }], guard := none }) (v := ?_) rfl (by kernel_rfl) (by kernel_rfl) (by kernel_rfl) (fun _ _ _ h => h) (Or.inl ⟨by kernel_rfl, ?_⟩) hHeld ?_
              rotate_left
              · intro w hSw; have k0 := hSw.1.cells.1; go_simp; try with_reducible rfl
              simp only [Act.put, List.setIfInBounds_toArray, List.set_cons_zero, List.set_cons_succ]
              refine wpAnyH_take (i := 4) (oi := { dst := some 36, op := Op.move (Operand.tmp 1), type := 3, pos := "ref.go:53", after := #[], guard := none }) (v := ?_) rfl (by kernel_rfl) (by kernel_rfl) (by kernel_rfl) (fun _ _ _ h => h) (Or.inl ⟨by kernel_rfl, ?_⟩) hHeld ?_
              rotate_left
              · intro w hSw; go_simp; try with_reducible rfl
              simp only [Act.put, List.setIfInBounds_toArray, List.set_cons_zero, List.set_cons_succ]
              refine wpAnyH_ready (rs := [5]) (by kernel_rfl) (by simp) ?_
              refine AllReadyH.cons (o := { dst := some 37, op := Op.call { callee := Callee.value (Operand.func 29), args := #[Operand.tmp 35, Operand.tmp 36], argTypes := #[3, 3] }, type := 3, pos := "ref.go:53", after := #[{ on := 3, ground := Ground.data }, { on := 4, ground := Ground.data }], guard := none }) rfl (fun K hK2 => ?_) AllReadyH.nil
              go_simp
              go_wp2_with (go_at_call 29; refine (r03_Start _ _ _).mono ?_; rintro e V1 ⟨rfl, rfl⟩)
              refine hK2.out _ _ hHeld (fun hHeld => ?_)
              clear hK2 K
              refine wpAnyH_ready (rs := [6]) (by kernel_rfl) (by simp) ?_
              refine AllReadyH.cons (o := { dst := none, op := Op.store 25 (Operand.tmp 4) (Operand.tmp 32), type := 0, pos := "ref.go:53", after := #[{ on := 0, ground := Ground.data }, { on := 5, ground := Ground.chain }, { on := 0, ground := Ground.phase }, { on := 1, ground := Ground.textOnly Departure.lateStores }, { on := 2, ground := Ground.textOnly Departure.lateStores }, { on := 3, ground := Ground.textOnly Departure.lateStores }, { on := 4, ground := Ground.textOnly Departure.lateStores }, { on := 5, ground := Ground.textOnly Departure.lateStoresUnsure }], guard := none }) rfl (fun K hK2 => ?_) AllReadyH.nil
              rw [if_pos (by kernel_rfl)]
              refine wp_store_row 25 (.tmp 4) (.tmp 32) rfl (w.heap.size + 1) ((setR x 0 (walkJ x 0)).cells E1 f1 E2 f2) rfl rfl 25 (View.zero.cells none 0 none 0) hres (view_size _ _ _ _ _) rfl (View.oneCell _ _ _ _ _) ?_
              dsimp only [Act.put]
              refine name_K fun W7 hW7 => ?_
              have hres7 : VBox W7 (w.heap.size + 1) (setR x 0 (walkJ x 0)) E1 f1 E2 f2 := by rw [← hW7]; exact hres.setRow (setR x 0 (walkJ x 0)) E1 E2 f1 f2
              have hB7 : Below w.heap.size w W7 := by rw [← hW7]; exact below_setRow hHeld.2.2 (Nat.le_succ _) _
              have hR7 : RepV W7 x E1 f1 E2 f2 := by rw [← hW7]; exact hHeld.2.1.row (w.heap.size + 1) _ (fun b off e => by have := HG.out.1 b off e; omega) (fun b off e => by have := HG.out.2 b off e; omega)
              refine hK2.out _ _ ⟨by rw [← hW7]; exact (heap_setRow _ _ _ _ (by omega)).trans hHeld.1, hR7, hB7⟩ (fun hHeld => ?_)
              clear hK2 K hW7
              refine wpAnyH_take (i := 7) (oi := { dst := some 5, op := Op.assign (Operand.tmp 33), type := 3, pos := "ref.go:53", after := #[{ on := 1, ground := Ground.data }, { on := 6, ground := Ground.chain }, { on := 0, ground := Ground.phase }, { on := 1, ground := Ground.phase }, { on := 2, ground := Ground.textOnly Departure.lateStores }, { on := 3, ground := Ground.textOnly Departure.lateStores }, { on := 4, ground := Ground.textOnly Departure.lateStores }, { on := 5, ground := Ground.textOnly Departure.lateStoresUnsure }, { on := 6, ground := Ground.phase }], guard := none }) (v := ?_) rfl (by kernel_rfl) (by kernel_rfl) (by kernel_rfl) (fun _ _ _ h => h) (Or.inl ⟨by kernel_rfl, ?_⟩) hHeld ?_
              rotate_left
              · intro w hSw; go_simp; try with_reducible rfl
              simp only [Act.put, List.setIfInBounds_toArray, List.set_cons_zero, List.set_cons_succ]
              refine wpAnyH_take (i := 8) (oi := { dst := some 6, op := Op.assign (Operand.tmp 37), type := 3, pos := "ref.go:53", after := #[{ on := 5, ground := Ground.data }, { on := 7, ground := Ground.chain }, { on := 0, ground := Ground.phase }, { on := 1, ground := Ground.phase }, { on := 2, ground := Ground.phase }, { on := 3, ground := Ground.phase }, { on := 4, ground := Ground.phase }, { on := 5, ground := Ground.phase }, { on := 6, ground := Ground.phase }, { on := 7, ground := Ground.phase }], guard := none }) (v := ?_) rfl (by kernel_rfl) (by kernel_rfl) (by kernel_rfl) (fun _ _ _ h => h) (Or.inl ⟨by kernel_rfl, ?_⟩) hHeld ?_
              rotate_left
              · intro w hSw; go_simp; try with_reducible rfl
              simp only [Act.put, List.setIfInBounds_toArray, List.set_cons_zero, List.set_cons_succ]
              refine wpAnyH_take (i := 9) (oi := { dst := some 7, op := Op.assign (Operand.const (Value.bool true)), type := 4, pos := "ref.go:53", after := #[{ on := 8, ground := Ground.chain }, { on := 0, ground := Ground.phase }, { on := 1, ground := Ground.phase }, { on := 2, ground := Ground.phase }, { on := 3, ground := Ground.phase }, { on := 4, ground := Ground.phase }, { on := 5, ground := Ground.phase }, { on := 6, ground := Ground.phase }, { on := 7, ground := Ground.phase }, { on := 8, ground := Ground.phase }], guard := none }) (v := ?_) rfl (by kernel_rfl) (by kernel_rfl) (by kernel_rfl) (fun _ _ _ h => h) (Or.inl ⟨by kernel_rfl, ?_⟩) hHeld ?_
              rotate_left
              · intro w hSw; go_simp; try with_reducible rfl
              simp only [Act.put, List.setIfInBounds_toArray, List.set_cons_zero, List.set_cons_succ]
              refine wpAnyH_done (by kernel_rfl) ?_ _
              go_wp2
              refine bodyPost_ret (results_cell_tmp3 (p := 4) (t := 5) (u := 6) (v := 7) rfl _ _ (w.heap.size + 1) 25 ((setR x 0 (walkJ x 0)).cells E1 f1 E2 f2) (0, 0) _ rfl hres7 Tryd.underlying25 rfl (view_size _ _ _ _ _)) rfl ?_
              rw [HW.out.1, HW.out.2.1, HW.out.2.2.1, HW.out.2.2.2]
              exact ⟨E1, f1, E2, f2, rfl, ⟨hR7.base, hR7.list⟩, hB7, fun b off e => by have := HG.out.1 b off e; omega, fun b off e => by have := HG.out.2 b off e; omega⟩
            · have HW := Lib.hid (show walkV x i = (setR x 0 (walkJ x 0)) ∧ walkN x i = 0 ∧ walkK x i = 0 ∧ walkM x i = false by
                have := walk_no hr (i := i) (by rw [HS.out.2]; exact hj)
                rwa [HS.out.1, HS.out.2] at this)
              have hT6 := hT.out
              have hR6 : RepV wr (setR x 0 (walkJ x 0)) E1 f1 E2 f2 := HY.out
              go_upto_region 12 with (fail)
              refine wp_region_lit ?_
              (refine wpList_load_view (t := 2) (setR x 0 (walkJ x 0)) E1 E2 f1 f2 w.heap.size ?hg ?hw ?hx ?_; (case hg => exact hT6.box); (case hw => rfl); (case hx => rfl))
              (refine wpList_store_row rfl 25 (.tmp 4) (.tmp 44) rfl (w.heap.size + 1) ((setR x 0 (walkJ x 0)).cells E1 f1 E2 f2) rfl rfl 25 (View.zero.cells none 0 none 0) hT6.res (view_size _ _ _ _ _) rfl (View.oneCell _ _ _ _ _) ?_)
              go_wp2
              refine bodyPost_ret (results_cell_tmp3 (p := 4) (t := 5) (u := 6) (v := 7) rfl _ _ (w.heap.size + 1) 25 ((setR x 0 (walkJ x 0)).cells E1 f1 E2 f2) (0, 0) _ rfl (hT6.res.setRow (setR x 0 (walkJ x 0)) E1 E2 f1 f2) Tryd.underlying25 rfl (view_size _ _ _ _ _)) rfl ?_
              rw [HW.out.1, HW.out.2.1, HW.out.2.2.1, HW.out.2.2.2]
              exact ⟨E1, f1, E2, f2, rfl, hR6.row (w.heap.size + 1) _ (fun b off e => by have := HG.out.1 b off e; omega) (fun b off e => by have := HG.out.2 b off e; omega), below_setRow hT6.b (Nat.le_succ _) _, fun b off e => by have := HG.out.1 b off e; omega, fun b off e => by have := HG.out.2 b off e; omega⟩
      case false =>
        obtain ⟨m, rfl⟩ : ∃ m : Nat, i = m := ⟨i.toNat, by simp at e2; omega⟩
        have hm16 : m < 16 := by simp at e3; omega
        have hs0 : startI x (m : Int) = m := by simp [startI, knownF, hr]; omega
        have HS := Lib.hid (And.intro hs0 (show walkE x (m : Int) = walkJ x m by rw [walkE, hs0]))
        go_upto_region 6 with (first | (refine wpList_load_view (t := 2) x E1 E2 f1 f2 w.heap.size ?hg ?hw ?hx ?_; (case hg => exact hT2.box); (case hw => rfl); (case hx => rfl)) | (go_at_call 25; refine (r13_Right x E1 E2 f1 f2 _ hR2.base hR2.list).mono ?_; rintro e W3 ⟨he, hb3⟩; rw [hr] at he; subst he; have hT3 := hT2.below (Nat.le_refl _) (Nat.le_succ _) hb3; have hR3 := hR2.below hb3))
        have hj16 : walkJ x m ≤ 16 := walkJ_le (by omega)
        have hjs := walkJ_ge x m
        have HT0 := Lib.hid hT3
        have HR0 := Lib.hid hR3
        clear hT2 hR2 hT3 hR3 hb3 hs0
        go_wp2
        go_loopw [1] (fun t1 wr => ∃ k : Nat, m ≤ k ∧ k ≤ walkJ x m ∧ t1 = .int .i64 k ∧ Hid (Two w wr w.heap.size (w.heap.size + 1) (setR x m k) View.zero E1 f1 E2 f2 none 0 none 0) ∧ Hid (RepV wr x E1 f1 E2 f2)) (fun t1 _ => 16 - (intOf t1).toNat)
        case atStart => exact ⟨m, Nat.le_refl _, hjs, rfl, by rw [setR_none]; exact HT0, HR0⟩
        case round =>
          clear HT0 HR0
          obtain ⟨k, hk1, hk2, rfl, hT, hR⟩ := hrel
          have hy := setR_right hr m k
          obtain ⟨of1, of2⟩ := once_setR hr m k (k : Int)
          have hRy : RepV wr (setR x m k) E1 f1 E2 f2 := ⟨hR.out.base, hR.out.list⟩
          have HY := Lib.hid hRy
          clear hRy hy
          rcases Nat.lt_or_ge k (walkJ x m) with hlt | hge
          · have eF := of1.trans (walkJ_all hk1 hlt)
            have eP : onceP (setR x m k) k = firstV x := of2.trans (by simp [onceP, walkJ_all hk1 hlt])
            have hk16 : k < 16 := by omega
            clear of1 of2
            go_upto_region 10 with (first | (refine wpList_load_view (t := 2) (setR x m k) E1 E2 f1 f2 w.heap.size ?hg ?hw ?hx ?_; (case hg => exact hT.out.box); (case hw => rfl); (case hx => rfl)) | (go_at_call 17; refine (r17_Once (setR x m k) E1 E2 f1 f2 _ _ HY.out).mono ?_; rintro e W6 ⟨he, hb6⟩; rw [eP, eF] at he; subst he; have hT6 := hT.out.below (Nat.le_refl _) (Nat.le_succ _) hb6; have hR6 := hR.out.below hb6; have p1 := hT6.box.finger hk16; have p2 := hT6.box.frozen))
            go_wp2
            go_roundw
            case rel => exact ⟨k + 1, by omega, hlt, by go_num, by rw [← setR_next x hk1]; exact Lib.hid (hT6.setF (Nat.le_refl _) (Nat.succ_ne_self _) hk16 _), Lib.hid (hR6.set _ _ (fun b off e => by have := HG.out.1 b off e; show b ≠ w.heap.size; omega) (fun b off e => by have := HG.out.2 b off e; show b ≠ w.heap.size; omega))⟩
            case measure => simp [intOf]; omega
          · obtain rfl : k = walkJ x m := by omega
            have eF := of1.trans (walkJ_end x m)
            have eP : onceP (setR x m (walkJ x m)) (walkJ x m) = 0 := of2.trans (by simp [onceP, walkJ_end x m])
            clear of1 of2
            by_cases hj : walkJ x m < 16
            · have HW := Lib.hid (show walkV x (m : Int) = (setR x m (walkJ x m)) ∧ walkN x (m : Int) = walkJ x m ∧ walkK x (m : Int) = startF x.id (walkJ x m) ∧ walkM x (m : Int) = true by
                have := walk_yes hr (i := (m : Int)) (by rw [HS.out.2]; exact hj)
                rwa [HS.out.1, HS.out.2] at this)
              go_upto_region 9 with (first | (refine wpList_load_view (t := 2) (setR x m (walkJ x m)) E1 E2 f1 f2 w.heap.size ?hg ?hw ?hx ?_; (case hg => exact hT.out.box); (case hw => rfl); (case hx => rfl)) | (go_at_call 17; refine (r17_Once (setR x m (walkJ x m)) E1 E2 f1 f2 _ _ HY.out).mono ?_; rintro e W6 ⟨he, hb6⟩; rw [eP, eF] at he; subst he; have hT6 := hT.out.below (Nat.le_refl _) (Nat.le_succ _) hb6; have hR6 := hR.out.below hb6))
              refine wp_region_held_drew (S := (fun W' => VBox W' w.heap.size (setR x m (walkJ x m)) E1 f1 E2 f2 ∧ RepV W' x E1 f1 E2 f2 ∧ Below w.heap.size w W')) (by kernel_rfl) ⟨hT6.box, hR6.below ((Below.refl _ _).drew), hT6.b.drew⟩ (fun hHeld => ?_)
              have hres : VBox W6.drew (w.heap.size + 1) View.zero none 0 none 0 := hT6.res
              refine wpAnyH_take (i := 0) (oi := { dst := some 32, op := Op.load 25 (Operand.tmp 2), type := 25, pos := "ref.go:53", after := #[], guard := none }) (v := .agg ((setR x m (walkJ x m)).cells E1 f1 E2 f2)) rfl (by kernel_rfl) (by kernel_rfl) (by kernel_rfl) (fun _ _ _ h => h) (yields_view (t := 2) (setR x m (walkJ x m)) E1 E2 f1 f2 w.heap.size (by kernel_rfl) rfl (fun w h => h.1)) hHeld ?_
              simp only [Act.put, List.setIfInBounds_toArray, List.set_cons_zero, List.set_cons_succ]
              refine wpAnyH_take (i := 1) (oi := { dst := some 33, op := Op.move (Operand.tmp 1), type := 3, pos := "ref.go:53", after := #[{ on := 6, ground := Ground.gcOnly Departure.lateStores }], guard := none }) (v := ?_) rfl (by kernel_rfl) (by kernel_rfl) (by kernel_rfl) (fun _ _ _ h => h) (Or.inl ⟨by kernel_rfl, ?_⟩) hHeld ?_
              rotate_left
              · intro w hSw; go_simp; try with_reducible rfl
              simp only [Act.put, List.setIfInBounds_toArray, List.set_cons_zero, List.set_cons_succ]
              refine wpAnyH_take (i := 2) (oi := { dst := some 34, op := Op.fieldAddr 25 (Operand.tmp 2) 0, type := 0, pos := "ref.go:53", after := #[], guard := none }) (v := ?_) rfl (by kernel_rfl) (by kernel_rfl) (by kernel_rfl) (fun _ _ _ h => h) (Or.inl ⟨by kernel_rfl, ?_⟩) hHeld ?_
              rotate_left
              · intro w hSw; go_simp; try with_reducible rfl
              simp only [Act.put, List.setIfInBounds_toArray, List.set_cons_zero, List.set_cons_succ]
              refine wpAnyH_take (i := 3) (oi := { dst := some 35, op := Op.load 3 (Operand.tmp 34), type := 3, pos := "ref.go:53", after := #[{ on := 2, ground := Ground.data }], guard := none }) (v := ?_) rfl (by kernel_rfl) (by kernel_rfl) (by kernel_rfl) (fun _ _ _ h => h) (Or.inl ⟨by kernel_rfl, ?_⟩) hHeld ?_
              rotate_left
              · intro w hSw; have k0 := hSw.1.cells.1; go_simp; try with_reducible rfl
              simp only [Act.put, List.setIfInBounds_toArray, List.set_cons_zero, List.set_cons_succ]
              refine wpAnyH_take (i := 4) (oi := { dst := some 36, op := Op.move (Operand.tmp 1), type := 3, pos := "ref.go:53", after := #[], guard := none }) (v := ?_) rfl (by kernel_rfl) (by kernel_rfl) (by kernel_rfl) (fun _ _ _ h => h) (Or.inl ⟨by kernel_rfl, ?_⟩) hHeld ?_
              rotate_left
              · intro w hSw; go_simp; try with_reducible rfl
              simp only [Act.put, List.setIfInBounds_toArray, List.set_cons_zero, List.set_cons_succ]
              refine wpAnyH_ready (rs := [5]) (by kernel_rfl) (by simp) ?_
              refine AllReadyH.cons (o := { dst := some 37, op := Op.call { callee := Callee.value (Operand.func 29), args := #[Operand.tmp 35, Operand.tmp 36], argTypes := #[3, 3] }, type := 3, pos := "ref.go:53", after := #[{ on := 3, ground := Ground.data }, { on := 4, ground := Ground.data }], guard := none }) rfl (fun K hK2 => ?_) AllReadyH.nil
              go_simp
              go_wp2_with (go_at_call 29; refine (r03_Start _ _ _).mono ?_; rintro e V1 ⟨rfl, rfl⟩)
              refine hK2.out _ _ hHeld (fun hHeld => ?_)
              clear hK2 K
              refine wpAnyH_ready (rs := [6]) (by kernel_rfl) (by simp) ?_
              refine AllReadyH.cons (o := { dst := none, op := Op.store 25 (Operand.tmp 4) (Operand.tmp 32), type := 0, pos := "ref.go:53", after := #[{ on := 0, ground := Ground.data }, { on := 5, ground := Ground.chain }, { on := 0, ground := Ground.phase }, { on := 1, ground := Ground.textOnly Departure.lateStores }, { on := 2, ground := Ground.textOnly Departure.lateStores }, { on := 3, ground := Ground.textOnly Departure.lateStores }, { on := 4, ground := Ground.textOnly Departure.lateStores }, { on := 5, ground := Ground.textOnly Departure.lateStoresUnsure }], guard := none }) rfl (fun K hK2 => ?_) AllReadyH.nil
              rw [if_pos (by kernel_rfl)]
              refine wp_store_row 25 (.tmp 4) (.tmp 32) rfl (w.heap.size + 1) ((setR x m (walkJ x m)).cells E1 f1 E2 f2) rfl rfl 25 (View.zero.cells none 0 none 0) hres (view_size _ _ _ _ _) rfl (View.oneCell _ _ _ _ _) ?_
              dsimp only [Act.put]
              refine name_K fun W7 hW7 => ?_
              have hres7 : VBox W7 (w.heap.size + 1) (setR x m (walkJ x m)) E1 f1 E2 f2 := by rw [← hW7]; exact hres.setRow (setR x m (walkJ x m)) E1 E2 f1 f2
              have hB7 : Below w.heap.size w W7 := by rw [← hW7]; exact below_setRow hHeld.2.2 (Nat.le_succ _) _
              have hR7 : RepV W7 x E1 f1 E2 f2 := by rw [← hW7]; exact hHeld.2.1.row (w.heap.size + 1) _ (fun b off e => by have := HG.out.1 b off e; omega) (fun b off e => by have := HG.out.2 b off e; omega)
              refine hK2.out _ _ ⟨by rw [← hW7]; exact (heap_setRow _ _ _ _ (by omega)).trans hHeld.1, hR7, hB7⟩ (fun hHeld => ?_)
              clear hK2 K hW7
              refine wpAnyH_take (i := 7) (oi := { dst := some 5, op := Op.assign (Operand.tmp 33), type := 3, pos := "ref.go:53", after := #[{ on := 1, ground := Ground.data }, { on := 6, ground := Ground.chain }, { on := 0, ground := Ground.phase }, { on := 1, ground := Ground.phase }, { on := 2, ground := Ground.textOnly Departure.lateStores }, { on := 3, ground := Ground.textOnly Departure.lateStores }, { on := 4, ground := Ground.textOnly Departure.lateStores }, { on := 5, ground := Ground.textOnly Departure.lateStoresUnsure }, { on := 6, ground := Ground.phase }], guard := none }) (v := ?_) rfl (by kernel_rfl) (by kernel_rfl) (by kernel_rfl) (fun _ _ _ h => h) (Or.inl ⟨by kernel_rfl, ?_⟩) hHeld ?_
              rotate_left
              · intro w hSw; go_simp; try with_reducible rfl
              simp only [Act.put, List.setIfInBounds_toArray, List.set_cons_zero, List.set_cons_succ]
              refine wpAnyH_take (i := 8) (oi := { dst := some 6, op := Op.assign (Operand.tmp 37), type := 3, pos := "ref.go:53", after := #[{ on := 5, ground := Ground.data }, { on := 7, ground := Ground.chain }, { on := 0, ground := Ground.phase }, { on := 1, ground := Ground.phase }, { on := 2, ground := Ground.phase }, { on := 3, ground := Ground.phase }, { on := 4, ground := Ground.phase }, { on := 5, ground := Ground.phase }, { on := 6, ground := Ground.phase }, { on := 7, ground := Ground.phase }], guard := none }) (v := ?_) rfl (by kernel_rfl) (by kernel_rfl) (by kernel_rfl) (fun _ _ _ h => h) (Or.inl ⟨by kernel_rfl, ?_⟩) hHeld ?_
              rotate_left
              · intro w hSw; go_simp; try with_reducible rfl
              simp only [Act.put, List.setIfInBounds_toArray, List.set_cons_zero, List.set_cons_succ]
              refine wpAnyH_take (i := 9) (oi := { dst := some 7, op := Op.assign (Operand.const (Value.bool true)), type := 4, pos := "ref.go:53", after := #[{ on := 8, ground := Ground.chain }, { on := 0, ground := Ground.phase }, { on := 1, ground := Ground.phase }, { on := 2, ground := Ground.phase }, { on := 3, ground := Ground.phase }, { on := 4, ground := Ground.phase }, { on := 5, ground := Ground.phase }, { on := 6, ground := Ground.phase }, { on := 7, ground := Ground.phase }, { on := 8, ground := Ground.phase }], guard := none }) (v := ?_) rfl (by kernel_rfl) (by kernel_rfl) (by kernel_rfl) (fun _ _ _ h => h) (Or.inl ⟨by kernel_rfl, ?_⟩) hHeld ?_
              rotate_left
              · intro w hSw; go_simp; try with_reducible rfl
              simp only [Act.put, List.setIfInBounds_toArray, List.set_cons_zero, List.set_cons_succ]
              refine wpAnyH_done (by kernel_rfl) ?_ _
              go_wp2
              refine bodyPost_ret (results_cell_tmp3 (p := 4) (t := 5) (u := 6) (v := 7) rfl _ _ (w.heap.size + 1) 25 ((setR x m (walkJ x m)).cells E1 f1 E2 f2) (0, 0) _ rfl hres7 Tryd.underlying25 rfl (view_size _ _ _ _ _)) rfl ?_
              rw [HW.out.1, HW.out.2.1, HW.out.2.2.1, HW.out.2.2.2]
              exact ⟨E1, f1, E2, f2, rfl, ⟨hR7.base, hR7.list⟩, hB7, fun b off e => by have := HG.out.1 b off e; omega, fun b off e => by have := HG.out.2 b off e; omega⟩
            · have HW := Lib.hid (show walkV x (m : Int) = (setR x m (walkJ x m)) ∧ walkN x (m : Int) = 0 ∧ walkK x (m : Int) = 0 ∧ walkM x (m : Int) = false by
                have := walk_no hr (i := (m : Int)) (by rw [HS.out.2]; exact hj)
                rwa [HS.out.1, HS.out.2] at this)
              have hT6 := hT.out
              have hR6 : RepV wr (setR x m (walkJ x m)) E1 f1 E2 f2 := HY.out
              go_upto_region 12 with (fail)
              refine wp_region_lit ?_
              (refine wpList_load_view (t := 2) (setR x m (walkJ x m)) E1 E2 f1 f2 w.heap.size ?hg ?hw ?hx ?_; (case hg => exact hT6.box); (case hw => rfl); (case hx => rfl))
              (refine wpList_store_row rfl 25 (.tmp 4) (.tmp 44) rfl (w.heap.size + 1) ((setR x m (walkJ x m)).cells E1 f1 E2 f2) rfl rfl 25 (View.zero.cells none 0 none 0) hT6.res (view_size _ _ _ _ _) rfl (View.oneCell _ _ _ _ _) ?_)
              go_wp2
              refine bodyPost_ret (results_cell_tmp3 (p := 4) (t := 5) (u := 6) (v := 7) rfl _ _ (w.heap.size + 1) 25 ((setR x m (walkJ x m)).cells E1 f1 E2 f2) (0, 0) _ rfl (hT6.res.setRow (setR x m (walkJ x m)) E1 E2 f1 f2) Tryd.underlying25 rfl (view_size _ _ _ _ _)) rfl ?_
              rw [HW.out.1, HW.out.2.1, HW.out.2.2.1, HW.out.2.2.2]
              exact ⟨E1, f1, E2, f2, rfl, hR6.row (w.heap.size + 1) _ (fun b off e => by have := HG.out.1 b off e; omega) (fun b off e => by have := HG.out.2 b off e; omega), below_setRow hT6.b (Nat.le_succ _) _, fun b off e => by have := HG.out.1 b off e; omega, fun b off e => by have := HG.out.2 b off e; omega⟩
end Go.Proofs.YtbjgfcempfpfcaaDoor
