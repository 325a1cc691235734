/- The law FingerTable. -/
import Derived.Test.YtbjgfcempfpfcaaDoorCM
namespace Go.Proofs.YtbjgfcempfpfcaaDoor
open Go.RowKit Go.Shelf

theorem place_of {n : Int} (h : isPl n = true) : place n = n := by rw [isPl_iff] at h; unfold place; omega
theorem allPl_at {l : List Int} (hp : allPl l = true) {k : Nat} (hk : k < l.length) : isPl (nth l k) = true := by
  rw [allPl, List.all_eq_true] at hp; exact hp _ (nth_mem hk)
theorem own_mem (key : Int) {l : List Int} (hp : allPl l = true) : ∀ k, k + 1 ≤ l.length → ownT key l (k + 1) ∈ l
  | 0, hk => by rw [ownT_one key (by omega), place_of (allPl_at hp (by omega))]; exact nth_mem (by omega)
  | k + 1, hk => by
    rw [ownT_next key (by omega), ownS]
    split
    · rw [place_of (allPl_at hp (by omega))]; exact nth_mem (by omega)
    · exact own_mem key hp k (by omega)
theorem own_spec {l : List Int} (hp : allPl l = true) (h0 : 0 < l.length) (key : Int) : ownL key l ∈ l ∧ ∀ b ∈ l, far key (ownL key l) ≤ far key b := by
  obtain ⟨k, hk⟩ : ∃ k, l.length = k + 1 := ⟨l.length - 1, by omega⟩
  have h1 := own_mem key hp k (by omega)
  have h2 := (own_min key (l := l) k (by omega)).2
  rw [← hk, ownT_all] at h1 h2
  refine ⟨h1, fun b hb => ?_⟩
  obtain ⟨j, hj, rfl⟩ := mem_nth hb
  exact h2 j hj
theorem own_same {l m : List Int} (hp : allPl l = true) (hq : allPl m = true) (h0 : 0 < l.length) (h1 : 0 < m.length) (hm : ∀ b, b ∈ l ↔ b ∈ m) (key : Int) : ownL key l = ownL key m := by
  obtain ⟨a1, a2⟩ := own_spec hp h0 key
  obtain ⟨b1, b2⟩ := own_spec hq h1 key
  have c1 := a2 _ ((hm _).2 b1)
  have c2 := b2 _ ((hm _).1 a1)
  have d1 : isPl (ownL key l) = true := by rw [allPl, List.all_eq_true] at hp; exact hp _ a1
  have d2 : isPl (ownL key m) = true := by rw [allPl, List.all_eq_true] at hq; exact hq _ b1
  rw [isPl_iff] at d1 d2
  unfold far at c1 c2
  omega
theorem allPl_reverse (l : List Int) : allPl l.reverse = allPl l := by simp [allPl]
theorem tab_reverse {x : View} {l : List Int} (hr : rightV x = true) (h0 : 0 < l.length) (hp : allPl l = true) : (tabV x l = tabQ x l 16 ∧ tabE x l = 0) ∧ tabV x l.reverse = tabQ x l 16 ∧ tabE x l.reverse = 0 := by
  have h1 := tab_yes (show tableOk x l = true by simp [tableOk, hr, h0, hp])
  have h2 := tab_yes (show tableOk x l.reverse = true by simp [tableOk, hr, h0, allPl_reverse, hp])
  refine ⟨h1, h2.1.trans ?_, h2.2⟩
  unfold tabQ
  have : tabN x l.reverse = tabN x l := by
    funext k
    unfold tabN
    rw [own_same (by rw [allPl_reverse]; exact hp) hp (by simpa using h0) h0 (fun b => List.mem_reverse) _]
  rw [this]
theorem rev_next {l : List Int} {k : Nat} (h : k < l.length) : (l.take (k + 1)).reverse = nth l k :: (l.take k).reverse := by
  rw [nth_eq h, List.take_succ_eq_append_getElem h, List.reverse_append]; rfl
theorem append_one {W w1 : World} {e : TypeId} {v1 : Value} {a : Int} {xs ys : List Int} {o : Obj} (hy : ys = a :: xs) (h : w1.ownsRow W.heap.size e 1 v1 (1 + xs.length) ([.int .i64 a] ++ iv xs)) (hg : (W.alloc o).grownBy w1 (Value.ownBlock (.slice (some ⟨W.heap.size, 0, none⟩) 1 1))) (hsm : ys.length ≤ 17592186044416) :
    ∃ A c, v1 = .slice A ys.length c ∧ Sl w1 A c ys ∧ (∀ b off, A = some ⟨b, off, none⟩ → W.heap.size ≤ b) ∧ Below W.heap.size W w1 := by
  subst hy
  obtain ⟨A, c, h1, h2, h3⟩ := sl_of_own (xs := a :: xs) h hsm
  exact ⟨A, c, h1, h2, h3, ((Below.refl W.heap.size W).alloc (Nat.le_refl _) _).grown hg (by simp) (fun k hk => by simp [Value.ownBlock] at hk; omega)⟩

set_option maxRecDepth 100000 in
set_option maxHeartbeats 4000000 in
theorem law_FingerTable_main (x : View) (A1 A2 : Option Addr) (c1 c2 : Nat) (A3 : Option Addr) (c3 : Nat) (l : List Int) (w : World) (hst : Steps w) (h : RepV w x A1 c1 A2 c2) (hs : Sl w A3 c3 l) (hg : greatV x = false) (hr : rightV x = true) (h0 : 0 < l.length) (hl : decide (60 < (l.length : Int)) = false) :
    Calls Tryd.prog 7 #[x.v A1 c1 A2 c2, .slice A3 l.length c3] w fun e w' => e = .returned (.bool true) ∧ Below w.heap.size w w' := by
  obtain ⟨i0, hi, hz0, hz1, hz2⟩ := info_parts Tryd.info_int
  have hsm := hs.small
  have hcap := hs.cap
  have hl1 : decide ((l.length : Int) < 1) = false := decide_eq_false (by omega)
  obtain ⟨b, off, rfl, hbl, -⟩ := hs.at_ h0
  unfold View.v
  go_enter Tryd.func7, Tryd.ntmps7
  go_upto_region 1 with (fail)
  refine name_world fun W0 hW0 => ?_
  have hT := one_start hW0
  clear hW0
  have hv0 : Has w W0 w.heap.size x A1 c1 A2 c2 := ⟨hT.box, h.below hT.b⟩
  have hB0 := hT.b
  clear hT
  go_upto_region 3 with (first | (refine wpList_load_view (t := 2) x A1 A2 c1 c2 w.heap.size ?hg ?hw ?hx ?_; (case hg => exact hv0.box); (case hw => rfl); (case hx => rfl)) | (go_at_call 12; refine (r15_Great x A1 A2 c1 c2 _).mono ?_; rintro e W1 ⟨he, hb1⟩; rw [hg] at he; subst he; have hv1 := hv0.below hb1; have hB1 := hB0.trans (hb1.mono hB0.size)) | (refine wpList_load_view (t := 2) x A1 A2 c1 c2 w.heap.size ?hg ?hw ?hx ?_; (case hg => exact hv1.box); (case hw => rfl); (case hx => rfl)) | (go_at_call 25; refine (r13_Right x A1 A2 c1 c2 _ hv1.rep.base hv1.rep.list).mono ?_; rintro e W2 ⟨he, hb2⟩; rw [hr] at he; subst he; have hv2 := hv1.below hb2; have hB2 := hB1.trans (hb2.mono hB1.size)))
  have HV := Lib.hid (And.intro hv2 (And.intro hB2 (hs.below hB2)))
  clear hv0 hB0 hb1 hv1 hB1 hb2 hv2 hB2 hs
  go_wp2
  go_loopw [5, 6] (fun t5 t6 wr => ∃ k : Nat, k ≤ l.length ∧ (∃ Ab cb, t5 = .slice Ab (l.take k).reverse.length cb ∧ Hid (Sl wr Ab cb (l.take k).reverse)) ∧ t6 = .int .i64 k ∧ Hid ((l.take k).all isPl = true) ∧ Hid (Has w wr w.heap.size x A1 c1 A2 c2 ∧ Below w.heap.size w wr ∧ Sl wr (some ⟨b, off, none⟩) c3 l)) (fun t5 t6 _ => l.length - (intOf t6).toNat)
  case atStart => exact ⟨0, Nat.zero_le _, ⟨none, 0, rfl, Lib.hid (Sl.nil _)⟩, rfl, Lib.hid rfl, HV⟩
  case round =>
    clear HV
    obtain ⟨k, hk, ⟨Ab, cb, rfl, hbk⟩, rfl, hall, hV⟩ := hrel
    by_cases hlt : k < l.length
    · have hc0 := hV.out.2.2.cell hlt
      cases e1 : decide (nth l k < 0) with
      | true =>
        have hnp : isPl (nth l k) = false := by simp at e1; simp [isPl]; omega
        have HR := Lib.hid (tab_no (x := x) (show tableOk x l = false by
          have : allPl l = false := by
            rw [Bool.eq_false_iff]; intro hh; rw [allPl, List.all_eq_true] at hh
            rw [hh _ (nth_mem hlt)] at hnp; cases hnp
          simp [tableOk, this]))
        have hv := hV.out.1
        have hB := hV.out.2.1
        have hl3 := hV.out.2.2
        go_upto_region 8 with (fail)
        clear hV hc0
        refine wp_region_lit ?_
        (refine wpList_load_view (t := 2) x A1 A2 c1 c2 w.heap.size ?hg ?hw ?hx ?_; (case hg => exact hv.box); (case hw => rfl); (case hx => rfl))
        go_upto_region 9 with (first | (go_at_call 23; refine (finger_Table x A1 A2 c1 c2 _ c3 l _ hv.rep hl3 (hst.below hB)).mono ?_; rintro e W3 ⟨E1, e1, E2, e2, he, hr3, hb3, -, -⟩; rw [HR.out.1] at he hr3; rw [HR.out.2] at he; subst he) | (refine wpList_store_row rfl 25 (.tmp 7) (.tmp 58) rfl W3.heap.size (x.cells E1 e1 E2 e2) rfl rfl 25 (View.zero.cells none 0 none 0) (VBox.new W3 View.zero none 0 none 0) (view_size _ _ _ _ _) rfl (View.oneCell _ _ _ _ _) ?_))
        refine name_world fun W4 hW4 => ?_
        obtain ⟨-, hb4⟩ := has_new (w := w) hr3 hW4
        have hB4 := (hB.trans (hb3.mono hB.size)).trans (hb4.mono (hB.trans (hb3.mono hB.size)).size)
        clear hW4
        go_wp2_with (go_at_call 13; refine (law17_wakes _ (hst.below hB4)).mono ?_; rintro e W5 ⟨rfl, hb5⟩; have hB5 := hB4.trans (hb5.mono hB4.size))
        go_ret
        exact ⟨rfl, hB5⟩
      | false =>
        cases e2 : decide (65536 ≤ nth l k) with
        | true =>
          have hnp : isPl (nth l k) = false := by simp at e2; simp [isPl]; omega
          have HR := Lib.hid (tab_no (x := x) (show tableOk x l = false by
            have : allPl l = false := by
              rw [Bool.eq_false_iff]; intro hh; rw [allPl, List.all_eq_true] at hh
              rw [hh _ (nth_mem hlt)] at hnp; cases hnp
            simp [tableOk, this]))
          have hv := hV.out.1
          have hB := hV.out.2.1
          have hl3 := hV.out.2.2
          go_upto_region 8 with (fail)
          clear hV hc0
          refine wp_region_lit ?_
          (refine wpList_load_view (t := 2) x A1 A2 c1 c2 w.heap.size ?hg ?hw ?hx ?_; (case hg => exact hv.box); (case hw => rfl); (case hx => rfl))
          go_upto_region 9 with (first | (go_at_call 23; refine (finger_Table x A1 A2 c1 c2 _ c3 l _ hv.rep hl3 (hst.below hB)).mono ?_; rintro e W3 ⟨E1, e1, E2, e2, he, hr3, hb3, -, -⟩; rw [HR.out.1] at he hr3; rw [HR.out.2] at he; subst he) | (refine wpList_store_row rfl 25 (.tmp 7) (.tmp 58) rfl W3.heap.size (x.cells E1 e1 E2 e2) rfl rfl 25 (View.zero.cells none 0 none 0) (VBox.new W3 View.zero none 0 none 0) (view_size _ _ _ _ _) rfl (View.oneCell _ _ _ _ _) ?_))
          refine name_world fun W4 hW4 => ?_
          obtain ⟨-, hb4⟩ := has_new (w := w) hr3 hW4
          have hB4 := (hB.trans (hb3.mono hB.size)).trans (hb4.mono (hB.trans (hb3.mono hB.size)).size)
          clear hW4
          go_wp2_with (go_at_call 13; refine (law17_wakes _ (hst.below hB4)).mono ?_; rintro e W5 ⟨rfl, hb5⟩; have hB5 := hB4.trans (hb5.mono hB4.size))
          go_ret
          exact ⟨rfl, hB5⟩
        | false =>
          have hip : isPl (nth l k) = true := by simp at e1 e2; simp [isPl]; omega
          go_upto_region 10 with (fail)
          go_upto_region 6 with (at_builtin; refine wpList_append_sl _ rfl (.tmp 69) (.tmp 70) _ rfl wr.heap.size 3 i0 _ 8 Tryd.underlying22 hi hz0 hz1 hz2 rfl (.slice (some ⟨wr.heap.size, 0, none⟩) 1 1) 1 [.int .i64 (nth l k)] rfl (World.ownsRow_lit wr #[.int .i64 (nth l k)] 1 (Nat.le_refl _) (by decide) rfl) Ab cb (l.take k).reverse rfl (hbk.out.alloc _) ?h1 ?h2 ?h3 ?_; (case h1 => simp only [maxLen, List.length_reverse, List.length_take]; omega); (case h2 => simp only [List.length_reverse, List.length_take]; omega); (case h3 => simp); intro v1 w1 hown1 hg1 hat1; obtain ⟨E1, f1, rfl, hs1, hf1, hb1⟩ := append_one (rev_next hlt) hown1 hg1 (by simp only [List.length_reverse, List.length_take]; omega); clear hown1 hg1 hat1)
          go_wp2
          go_roundw
          · exact ⟨k + 1, by omega, ⟨E1, f1, by simp, Lib.hid hs1⟩, by go_num, Lib.hid (by rw [allPl_next hlt, hall.out, hip]; rfl), Lib.hid ⟨hV.out.1.below hb1, hV.out.2.1.trans (hb1.mono hV.out.2.1.size), hV.out.2.2.below hb1⟩⟩
          · simp [intOf]; omega
    · obtain rfl : k = l.length := by omega
      rw [List.take_length] at hbk hall ⊢
      have HT := Lib.hid (tab_reverse hr h0 hall.out)
      obtain ⟨bk, hbe⟩ : ∃ bk, l.reverse = bk := ⟨_, rfl⟩
      rw [hbe] at hbk HT ⊢
      clear hbe
      obtain ⟨hv, hB, hs⟩ := hV.out
      have hk := hbk.out
      have HAL := Lib.hid (show allPl l = true from hall.out)
      clear hV hbk hlt hcap hall
      go_upto_region 11 with (fail)
      refine wp_region_lit ?_
      (refine wpList_load_view (t := 2) x A1 A2 c1 c2 w.heap.size ?hg ?hw ?hx ?_; (case hg => exact hv.box); (case hw => rfl); (case hx => rfl))
      go_upto_region 12 with (first | (go_at_call 23; refine (finger_Table x A1 A2 c1 c2 _ c3 l _ hv.rep hs (hst.below hB)).mono ?_; rintro e W3 ⟨E1, e1, E2, e2, he, hr3, hb3, -, -⟩; rw [HT.out.1.1] at he hr3; rw [HT.out.1.2] at he; subst he) | (refine wpList_store_row rfl 25 (.tmp 9) (.tmp 76) rfl W3.heap.size ((tabQ x l 16).cells E1 e1 E2 e2) rfl rfl 25 (View.zero.cells none 0 none 0) (VBox.new W3 View.zero none 0 none 0) (view_size _ _ _ _ _) rfl (View.oneCell _ _ _ _ _) ?_))
      refine name_world fun W4 hW4 => ?_
      obtain ⟨ht4, hb4⟩ := has_new (w := w) hr3 hW4
      have hv4 := (hv.below hb3).below hb4
      have hk4 := (hk.below hb3).below hb4
      have hs4 := (hs.below hb3).below hb4
      have hB4 := (hB.trans (hb3.mono hB.size)).trans (hb4.mono (hB.trans (hb3.mono hB.size)).size)
      clear hW4 hv hB hs hk hb3 hb4 hr3
      obtain ⟨B9, hB9⟩ : ∃ B, W3.heap.size = B := ⟨_, rfl⟩
      rw [hB9] at ht4 ⊢
      clear hB9
      refine wp_region_lit ?_
      (refine wpList_load_view (t := 2) x A1 A2 c1 c2 w.heap.size ?hg ?hw ?hx ?_; (case hg => exact hv4.box); (case hw => rfl); (case hx => rfl))
      go_upto_region 13 with (first | (go_at_call 23; refine (finger_Table x A1 A2 c1 c2 _ cb bk _ hv4.rep hk4 (hst.below hB4)).mono ?_; rintro e W5 ⟨F1, f1, F2, f2, he, hr5, hb5, -, -⟩; rw [HT.out.2.1] at he hr5; rw [HT.out.2.2] at he; subst he) | (refine wpList_store_row rfl 25 (.tmp 11) (.tmp 82) rfl W5.heap.size ((tabQ x l 16).cells F1 f1 F2 f2) rfl rfl 25 (View.zero.cells none 0 none 0) (VBox.new W5 View.zero none 0 none 0) (view_size _ _ _ _ _) rfl (View.oneCell _ _ _ _ _) ?_))
      refine name_world fun W6 hW6 => ?_
      obtain ⟨hu6, hb6⟩ := has_new (w := w) hr5 hW6
      have hv6 := (hv4.below hb5).below hb6
      have ht6 := (ht4.below hb5).below hb6
      have hs6 := (hs4.below hb5).below hb6
      have hB6 := (hB4.trans (hb5.mono hB4.size)).trans (hb6.mono (hB4.trans (hb5.mono hB4.size)).size)
      clear hW6 hv4 ht4 hk4 hs4 hB4 hb5 hb6 hr5
      obtain ⟨B11, hB11⟩ : ∃ B, W5.heap.size = B := ⟨_, rfl⟩
      rw [hB11] at hu6 ⊢
      clear hB11
      go_upto_region 15 with (first | (refine wpList_load_view (t := 9) (tabQ x l 16) E1 E2 e1 e2 B9 ?hg ?hw ?hx ?_; (case hg => exact ht6.box); (case hw => rfl); (case hx => rfl)) | (refine wpList_load_view (t := 11) (tabQ x l 16) F1 F2 f1 f2 B11 ?hg ?hw ?hx ?_; (case hg => exact hu6.box); (case hw => rfl); (case hx => rfl)) | (go_at_call 20; refine (r13_Same (tabQ x l 16) (tabQ x l 16) E1 E2 F1 F2 e1 e2 f1 f2 _ ht6.rep hu6.rep).mono ?_; rintro e W7 ⟨he, hb7⟩; rw [same_refl] at he; subst he; have hv7 := hv6.below hb7; have ht7 := ht6.below hb7; have hs7 := hs6.below hb7; have hB7 := hB6.trans (hb7.mono hB6.size)))
      have HV := Lib.hid (And.intro hv7 (And.intro ht7 (And.intro hs7 hB7)))
      clear hv6 ht6 hs6 hB6 hu6 hb7 hv7 ht7 hs7 hB7
      go_wp2
      go_loopw [13] (fun t13 wr => ∃ k : Nat, k ≤ 16 ∧ t13 = .int .i64 k ∧ Hid (Has w wr w.heap.size x A1 c1 A2 c2 ∧ Has w wr B9 (tabQ x l 16) E1 e1 E2 e2 ∧ Sl wr (some ⟨b, off, none⟩) c3 l ∧ Below w.heap.size w wr)) (fun t13 _ => 16 - (intOf t13).toNat)
      case atStart => exact ⟨0, Nat.zero_le _, rfl, HV⟩
      case round =>
        clear HV
        obtain ⟨k, hk, rfl, hV⟩ := hrel
        by_cases hlt : k < 16
        · have hkd : decide ((k : Int) < 16) = true := decide_eq_true (by omega)
          obtain ⟨o, ho⟩ : ∃ o, ownL (startF x.id k) l = o := ⟨_, rfl⟩
          have hsp := own_spec HAL.out h0 (startF x.id k)
          rw [ho] at hsp
          have hop : isPl o = true := by have := HAL.out; rw [allPl, List.all_eq_true] at this; exact this _ hsp.1
          have p9 : wr.cell? ⟨B9, 4 + k, none⟩ = some (.int .i64 (otherF x o)) := by
            have h1 := hV.out.2.1.box.finger hlt
            have h2 : (tabQ x l 16).f k = otherF x o := by rw [← ho]; show (if k < 16 then tabN x l k else x.f k) = _; rw [if_pos hlt]; rfl
            rw [h2] at h1; exact h1
          have p0 := hV.out.1.box.cells.1
          go_wp2
          go_quiet ((go_at_call 29; exact qs (r03_Start _ _ _) rfl))
          go_upto_region 19 with (fail)
          refine name_world fun W8 hW8 => ?_
          have HV8 := Lib.hid (hW8 ▸ And.intro (hV.out.1.drewN nq) (And.intro (hV.out.2.1.drewN nq) (And.intro (hV.out.2.2.1.drewN nq) (Below.drewN hV.out.2.2.2 nq))) : Has w W8 w.heap.size x A1 c1 A2 c2 ∧ Has w W8 B9 (tabQ x l 16) E1 e1 E2 e2 ∧ Sl W8 (some ⟨b, off, none⟩) c3 l ∧ Below w.heap.size w W8)
          clear hW8 hV p9 p0
          have q0 := HV8.out.1.box.cells.1
          have hmem : decide (o ∈ l) = true := by simpa using hsp.1
          have hmin : ∀ c ∈ l, decide (far (startF x.id k) c < far (startF x.id k) o) = false := fun c hc => by have := hsp.2 c hc; simp; omega
          have HM := Lib.hid (And.intro hmem hmin)
          clear hmem hmin hsp ho
          cases eo : (o == x.id) with
          | true =>
            have e1 : otherF x o = -1 := other_eq eo
            have e2 : o = x.id := beq_iff_eq.1 eo
            rw [e1]
            subst e2
            clear eo e1
            go_wp2
            go_loopw [16, 17] (fun t16 t17 wc => ∃ m : Nat, m ≤ l.length ∧ t16 = .bool (decide (x.id ∈ l.take m)) ∧ t17 = .int .i64 m ∧ Hid (wc = W8)) (fun t16 t17 _ => l.length - (intOf t17).toNat)
            case atStart => exact ⟨0, Nat.zero_le _, by simp, rfl, Lib.hid rfl⟩
            case round =>
              obtain ⟨m, hmk, rfl, rfl, hw⟩ := hrel
              by_cases hlm : m < l.length
              · have hc0 : wr.cell? ⟨b, off + m, none⟩ = some (.int .i64 (nth l m)) := by rw [hw.out]; exact HV8.out.2.2.1.cell hlm
                have hmn := HM.out.2 _ (nth_mem hlm)
                have hn := mem_take_next x.id hlm
                cases hm : decide (x.id ∈ l.take m) with
                | true =>
                  rw [hm, Bool.true_or] at hn
                  have HN := Lib.hid hn
                  clear hn
                  go_wp2_with (go_at_call 30; refine (r03_Far _ _ _).mono ?_; rintro e w' ⟨rfl, rfl⟩)
                  go_roundw
                  case rel => exact ⟨m + 1, by omega, by rw [HN.out], by go_num, hw⟩
                  case measure => simp [intOf]; omega
                | false =>
                  rw [hm, Bool.false_or] at hn
                  have HN := Lib.hid hn
                  clear hn
                  go_wp2_with (go_at_call 30; refine (r03_Far _ _ _).mono ?_; rintro e w' ⟨rfl, rfl⟩)
                  go_roundw
                  case rel => exact ⟨m + 1, by omega, by rw [HN.out], by go_num, hw⟩
                  case measure => simp [intOf]; omega
              · obtain rfl : m = l.length := by omega
                have hmm := HM.out.1
                rw [List.take_length, hmm]
                go_wp2
                go_roundw
                case rel => exact ⟨k + 1, by omega, by go_num, by rw [hw.out]; exact HV8⟩
                case measure => simp [intOf]; omega
          | false =>
            have e1 : otherF x o = o := other_ne eo
            have e2 : decide (o < 0) = false := by rw [isPl_iff] at hop; simp; omega
            rw [e1]
            clear eo e1
            go_wp2
            go_loopw [16, 17] (fun t16 t17 wc => ∃ m : Nat, m ≤ l.length ∧ t16 = .bool (decide (o ∈ l.take m)) ∧ t17 = .int .i64 m ∧ Hid (wc = W8)) (fun t16 t17 _ => l.length - (intOf t17).toNat)
            case atStart => exact ⟨0, Nat.zero_le _, by simp, rfl, Lib.hid rfl⟩
            case round =>
              obtain ⟨m, hmk, rfl, rfl, hw⟩ := hrel
              by_cases hlm : m < l.length
              · have hc0 : wr.cell? ⟨b, off + m, none⟩ = some (.int .i64 (nth l m)) := by rw [hw.out]; exact HV8.out.2.2.1.cell hlm
                have hmn := HM.out.2 _ (nth_mem hlm)
                have hn := mem_take_next o hlm
                cases hm : decide (o ∈ l.take m) with
                | true =>
                  rw [hm, Bool.true_or] at hn
                  have HN := Lib.hid hn
                  clear hn
                  go_wp2_with (go_at_call 30; refine (r03_Far _ _ _).mono ?_; rintro e w' ⟨rfl, rfl⟩)
                  go_roundw
                  case rel => exact ⟨m + 1, by omega, by rw [HN.out], by go_num, hw⟩
                  case measure => simp [intOf]; omega
                | false =>
                  rw [hm, Bool.false_or] at hn
                  have HN := Lib.hid hn
                  clear hn
                  go_wp2_with (go_at_call 30; refine (r03_Far _ _ _).mono ?_; rintro e w' ⟨rfl, rfl⟩)
                  go_roundw
                  case rel => exact ⟨m + 1, by omega, by rw [HN.out], by go_num, hw⟩
                  case measure => simp [intOf]; omega
              · obtain rfl : m = l.length := by omega
                have hmm := HM.out.1
                rw [List.take_length, hmm]
                go_wp2
                go_roundw
                case rel => exact ⟨k + 1, by omega, by go_num, by rw [hw.out]; exact HV8⟩
                case measure => simp [intOf]; omega
        · obtain rfl : k = 16 := by omega
          go_wp2_with (go_at_call 13; refine (law17_wakes _ (hst.below hV.out.2.2.2)).mono ?_; rintro e W9 ⟨rfl, hb9⟩; have hB9 := hV.out.2.2.2.trans (hb9.mono hV.out.2.2.2.size))
          go_ret
          exact ⟨rfl, hB9⟩

set_option maxRecDepth 100000 in
set_option maxHeartbeats 1000000 in
theorem law_FingerTable_great (x : View) (A1 A2 : Option Addr) (c1 c2 : Nat) (A3 : Option Addr) (c3 : Nat) (l : List Int) (w : World) (hst : Steps w) (hg : greatV x = true) :
    Calls Tryd.prog 7 #[x.v A1 c1 A2 c2, .slice A3 l.length c3] w fun e w' => e = .returned (.bool true) ∧ Below w.heap.size w w' := by
  unfold View.v
  go_enter Tryd.func7, Tryd.ntmps7
  go_upto_region 1 with (fail)
  refine name_world fun W0 hW0 => ?_
  have hT := one_start hW0
  clear hW0
  have hv0 := hT
  have hB0 := hT.b
  clear hT
  go_wp2_with (first | (refine wpList_load_view (t := 2) x A1 A2 c1 c2 w.heap.size ?hg ?hw ?hx ?_; (case hg => exact hv0.box); (case hw => rfl); (case hx => rfl)) | (go_at_call 12; refine (r15_Great x A1 A2 c1 c2 _).mono ?_; rintro e W1 ⟨he, hb1⟩; rw [hg] at he; subst he; have hv1 := hv0.below hb1; have hB1 := hB0.trans (hb1.mono hB0.size)) | (go_at_call 13; refine (law17_wakes _ (hst.below hB1)).mono ?_; rintro e W9 ⟨rfl, hb9⟩; have hB9 := hB1.trans (hb9.mono hB1.size)))
  go_ret
  exact ⟨rfl, hB9⟩

set_option maxRecDepth 100000 in
set_option maxHeartbeats 1000000 in
theorem law_FingerTable_bad (x : View) (A1 A2 : Option Addr) (c1 c2 : Nat) (A3 : Option Addr) (c3 : Nat) (l : List Int) (w : World) (hst : Steps w) (h : RepV w x A1 c1 A2 c2) (hg : greatV x = false) (hr : rightV x = false) :
    Calls Tryd.prog 7 #[x.v A1 c1 A2 c2, .slice A3 l.length c3] w fun e w' => e = .returned (.bool true) ∧ Below w.heap.size w w' := by
  unfold View.v
  go_enter Tryd.func7, Tryd.ntmps7
  go_upto_region 1 with (fail)
  refine name_world fun W0 hW0 => ?_
  have hT := one_start hW0
  clear hW0
  have hv0 : Has w W0 w.heap.size x A1 c1 A2 c2 := ⟨hT.box, h.below hT.b⟩
  have hB0 := hT.b
  clear hT
  go_wp2_with (first | (refine wpList_load_view (t := 2) x A1 A2 c1 c2 w.heap.size ?hg ?hw ?hx ?_; (case hg => exact hv0.box); (case hw => rfl); (case hx => rfl)) | (go_at_call 12; refine (r15_Great x A1 A2 c1 c2 _).mono ?_; rintro e W1 ⟨he, hb1⟩; rw [hg] at he; subst he; have hv1 := hv0.below hb1; have hB1 := hB0.trans (hb1.mono hB0.size)) | (refine wpList_load_view (t := 2) x A1 A2 c1 c2 w.heap.size ?hg ?hw ?hx ?_; (case hg => exact hv1.box); (case hw => rfl); (case hx => rfl)) | (go_at_call 25; refine (r13_Right x A1 A2 c1 c2 _ hv1.rep.base hv1.rep.list).mono ?_; rintro e W2 ⟨he, hb2⟩; rw [hr] at he; subst he; have hv2 := hv1.below hb2; have hB2 := hB1.trans (hb2.mono hB1.size)) | (go_at_call 13; refine (law17_wakes _ (hst.below hB2)).mono ?_; rintro e W9 ⟨rfl, hb9⟩; have hB9 := hB2.trans (hb9.mono hB2.size)))
  go_ret
  exact ⟨rfl, hB9⟩

set_option maxRecDepth 100000 in
set_option maxHeartbeats 1000000 in
theorem law_FingerTable_none (x : View) (A1 A2 : Option Addr) (c1 c2 : Nat) (A3 : Option Addr) (c3 : Nat) (l : List Int) (w : World) (hst : Steps w) (h : RepV w x A1 c1 A2 c2) (hg : greatV x = false) (hr : rightV x = true) (h0 : l.length = 0) :
    Calls Tryd.prog 7 #[x.v A1 c1 A2 c2, .slice A3 l.length c3] w fun e w' => e = .returned (.bool true) ∧ Below w.heap.size w w' := by
  unfold View.v
  go_enter Tryd.func7, Tryd.ntmps7
  go_upto_region 1 with (fail)
  refine name_world fun W0 hW0 => ?_
  have hT := one_start hW0
  clear hW0
  have hv0 : Has w W0 w.heap.size x A1 c1 A2 c2 := ⟨hT.box, h.below hT.b⟩
  have hB0 := hT.b
  clear hT
  go_wp2_with (first | (refine wpList_load_view (t := 2) x A1 A2 c1 c2 w.heap.size ?hg ?hw ?hx ?_; (case hg => exact hv0.box); (case hw => rfl); (case hx => rfl)) | (go_at_call 12; refine (r15_Great x A1 A2 c1 c2 _).mono ?_; rintro e W1 ⟨he, hb1⟩; rw [hg] at he; subst he; have hv1 := hv0.below hb1; have hB1 := hB0.trans (hb1.mono hB0.size)) | (refine wpList_load_view (t := 2) x A1 A2 c1 c2 w.heap.size ?hg ?hw ?hx ?_; (case hg => exact hv1.box); (case hw => rfl); (case hx => rfl)) | (go_at_call 25; refine (r13_Right x A1 A2 c1 c2 _ hv1.rep.base hv1.rep.list).mono ?_; rintro e W2 ⟨he, hb2⟩; rw [hr] at he; subst he; have hv2 := hv1.below hb2; have hB2 := hB1.trans (hb2.mono hB1.size)) | (go_at_call 13; refine (law17_wakes _ (hst.below hB2)).mono ?_; rintro e W9 ⟨rfl, hb9⟩; have hB9 := hB2.trans (hb9.mono hB2.size)))
  go_ret
  exact ⟨rfl, hB9⟩

set_option maxRecDepth 100000 in
set_option maxHeartbeats 1000000 in
theorem law_FingerTable_long (x : View) (A1 A2 : Option Addr) (c1 c2 : Nat) (A3 : Option Addr) (c3 : Nat) (l : List Int) (w : World) (hst : Steps w) (h : RepV w x A1 c1 A2 c2) (hg : greatV x = false) (hr : rightV x = true) (h0 : 0 < l.length) (hl : decide (60 < (l.length : Int)) = true) :
    Calls Tryd.prog 7 #[x.v A1 c1 A2 c2, .slice A3 l.length c3] w fun e w' => e = .returned (.bool true) ∧ Below w.heap.size w w' := by
  unfold View.v
  go_enter Tryd.func7, Tryd.ntmps7
  go_upto_region 1 with (fail)
  refine name_world fun W0 hW0 => ?_
  have hT := one_start hW0
  clear hW0
  have hv0 : Has w W0 w.heap.size x A1 c1 A2 c2 := ⟨hT.box, h.below hT.b⟩
  have hB0 := hT.b
  clear hT
  go_wp2_with (first | (refine wpList_load_view (t := 2) x A1 A2 c1 c2 w.heap.size ?hg ?hw ?hx ?_; (case hg => exact hv0.box); (case hw => rfl); (case hx => rfl)) | (go_at_call 12; refine (r15_Great x A1 A2 c1 c2 _).mono ?_; rintro e W1 ⟨he, hb1⟩; rw [hg] at he; subst he; have hv1 := hv0.below hb1; have hB1 := hB0.trans (hb1.mono hB0.size)) | (refine wpList_load_view (t := 2) x A1 A2 c1 c2 w.heap.size ?hg ?hw ?hx ?_; (case hg => exact hv1.box); (case hw => rfl); (case hx => rfl)) | (go_at_call 25; refine (r13_Right x A1 A2 c1 c2 _ hv1.rep.base hv1.rep.list).mono ?_; rintro e W2 ⟨he, hb2⟩; rw [hr] at he; subst he; have hv2 := hv1.below hb2; have hB2 := hB1.trans (hb2.mono hB1.size)) | (go_at_call 13; refine (law17_wakes _ (hst.below hB2)).mono ?_; rintro e W9 ⟨rfl, hb9⟩; have hB9 := hB2.trans (hb9.mono hB2.size)))
  go_ret
  exact ⟨rfl, hB9⟩

theorem law_FingerTable (x : View) (A1 A2 : Option Addr) (c1 c2 : Nat) (A3 : Option Addr) (c3 : Nat) (l : List Int) (w : World) (hst : Steps w) (h : greatV x = false → RepV w x A1 c1 A2 c2) (hs : decide (60 < (l.length : Int)) = false → Sl w A3 c3 l) :
    Calls Tryd.prog 7 #[x.v A1 c1 A2 c2, .slice A3 l.length c3] w fun e w' => e = .returned (.bool true) ∧ Below w.heap.size w w' := by
  cases hg : greatV x with
  | true => exact law_FingerTable_great x A1 A2 c1 c2 A3 c3 l w hst hg
  | false =>
    cases hr : rightV x with
    | false => exact law_FingerTable_bad x A1 A2 c1 c2 A3 c3 l w hst (h hg) hg hr
    | true =>
      rcases Nat.eq_zero_or_pos l.length with h0 | h0
      · exact law_FingerTable_none x A1 A2 c1 c2 A3 c3 l w hst (h hg) hg hr h0
      · cases hl : decide (60 < (l.length : Int)) with
        | true => exact law_FingerTable_long x A1 A2 c1 c2 A3 c3 l w hst (h hg) hg hr h0 hl
        | false => exact law_FingerTable_main x A1 A2 c1 c2 A3 c3 l w hst (h hg) (hs hl) hg hr h0 hl
end Go.Proofs.YtbjgfcempfpfcaaDoor
