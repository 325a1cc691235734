/- The law ItemGone. -/
import Derived.Test.YtbjgfcempfpfcaaDK
namespace Go.Proofs.Ytbjgfcempfpfcaa
open Go.RowKit Go.Shelf

theorem one_key (W : World) (x : It) (k : Nat) (hk : k < [x].length) : (W.alloc (.cells #[.string x.key, .int .i64 x.value, .int .i64 x.version, .bool x.gone] 40)).cell? ⟨W.heap.size, 0 + k * 4, none⟩ = some (.string (nthI [x] k).key) := by
  have : k = 0 := by simpa using hk
  subst this
  exact (IBox.new W x).cells.1
theorem gone_facts (x : It) (hv : -9223372036854775808 ≤ x.version) : ∃ m, goneOf x = ⟨x.key, 0, m, true⟩ ∧ (pairI x = true → pairI ⟨x.key, 0, m, true⟩ = true) ∧
    ((decide (1048576 ≤ x.version) = true ∧ decide (x.version < 1048576) = false ∧ m = x.version) ∨ (decide (1048576 ≤ x.version) = false ∧ decide (x.version < 1048576) = true ∧ m = wrap64 (x.version + 1) ∧ newerI ⟨x.key, 0, m, true⟩ x = true)) := by
  by_cases h : x.version < 1048576
  · have hw : wrap64 (x.version + 1) = x.version + 1 := by unfold wrap64; omega
    refine ⟨wrap64 (x.version + 1), by simp [goneOf, h], fun hp => ?_, .inr ⟨decide_eq_false (by omega), decide_eq_true h, rfl, ?_⟩⟩
    · rw [hw]
      simp only [pairI, within, Bool.and_eq_true, decide_eq_true_eq] at hp ⊢
      exact ⟨hp.1, by omega, by omega⟩
    · rw [hw, newer_iff]
      exact .inl (by show x.version < x.version + 1; omega)
  · refine ⟨x.version, by simp [goneOf, h], fun hp => ?_, .inl ⟨decide_eq_true (by omega), decide_eq_false h, rfl⟩⟩
    simp only [pairI, within, Bool.and_eq_true, decide_eq_true_eq] at hp ⊢
    exact ⟨hp.1, by omega, hp.2.2⟩

set_option maxRecDepth 100000 in
set_option maxHeartbeats 8000000 in
theorem law_ItemGone (x : It) (w : World) (hv : -9223372036854775808 ≤ x.version) : Calls Try.prog 10 #[x.v] w fun e w' => e = .returned (.bool true) ∧ Below w.heap.size w w' := by
  obtain ⟨m, hgo, hpp, hcase⟩ := gone_facts x hv
  unfold It.v
  go_enter Try.func10, Try.ntmps10
  go_upto_region 1 with (fail)
  refine name_world fun W0 hW0 => ?_
  have hB : Below w.heap.size w W0 := by rw [← hW0]; exact one_more _
  have a1 : IBox W0 w.heap.size x := by rw [← hW0]; exact IBox.new w x
  have ka := a1.cells
  clear hW0
  cases hG : greatL [x] with
  | true =>
    go_wp2_with (first | (refine wpList_load_lit (t := 1) x.key x.value x.version x.gone w.heap.size ?hg ?hw ?hx ?_; (case hg => exact a1); (case hw => rfl); (case hx => rfl)) | (go_at_call 35; refine (r19_Great _ _ [x] _ (fun _ => ⟨_, 0, rfl, fun k hk _ => one_key _ x k hk⟩)).mono ?_; rintro e V ⟨he, hV⟩; rw [hG] at he; subst he; have hb := (hV ▸ one_more _ : Below _ _ V); replace a1 := a1.below hb; replace hB := hB.trans (hb.mono hB.size); replace ka := a1.cells; clear hV) | (go_at_call 34; refine (law19_wakes _).mono ?_; rintro e V ⟨rfl, hb⟩; replace a1 := a1.below hb; replace hB := hB.trans (hb.mono hB.size); replace ka := a1.cells))
    go_ret
    exact ⟨rfl, hB⟩
  | false =>
    go_upto_region 3 with (first | (refine wpList_load_lit (t := 1) x.key x.value x.version x.gone w.heap.size ?hg ?hw ?hx ?_; (case hg => exact a1); (case hw => rfl); (case hx => rfl)) | (go_at_call 35; refine (r19_Great _ _ [x] _ (fun _ => ⟨_, 0, rfl, fun k hk _ => one_key _ x k hk⟩)).mono ?_; rintro e V ⟨he, hV⟩; rw [hG] at he; subst he; have hb := (hV ▸ one_more _ : Below _ _ V); replace a1 := a1.below hb; replace hB := hB.trans (hb.mono hB.size); replace ka := a1.cells; clear hV))
    go_upto_region 4 with (first | (refine wpList_load_item (t := 1) x w.heap.size ?hg ?hw ?hx ?_; (case hg => exact a1); (case hw => rfl); (case hx => rfl)) | (go_at_call 38; refine (item_Gone x _).mono ?_; rintro e V ⟨he, hb⟩; rw [hgo] at he; dsimp only [It.v, It.cells] at he; subst he; replace a1 := a1.below hb; replace hB := hB.trans (hb.mono hB.size); replace ka := a1.cells))
    refine name_world fun W4 hW4 => ?_
    obtain ⟨B, hBn⟩ : ∃ B, B = V.heap.size := ⟨_, rfl⟩
    have g1 : IBox W4 B ⟨x.key, 0, m, true⟩ := by rw [← hW4, hBn]; exact IBox.new V ⟨x.key, 0, m, true⟩
    have hb4 : Below V.heap.size V W4 := by rw [← hW4]; exact one_more _
    replace a1 := a1.below hb4
    replace hB := hB.trans (hb4.mono hB.size)
    rw [← hBn]
    replace ka := a1.cells
    have kg := g1.cells
    dsimp only at kg
    clear hW4 hBn hb4 hgo hG hv hb
    have hss : (x.key.toList == x.key.toList) = true := beq_self_eq_true _
    cases hp : pairI x with
    | false =>
      clear hpp
      rcases hcase with ⟨hc1, hc2, rfl⟩ | ⟨hc1, hc2, rfl, hnw⟩
      all_goals
        go_wp2_with (first | (with_reducible refine wpList_load_item (t := _) _ _ ?hg ?hw ?hx ?_; (case hx => rfl); (case hg => with_reducible first | exact a1 | exact g1); (case hw => rfl)) | (go_at_call 37; (first | with_reducible refine (pair_agg _ _).mono ?_ | with_reducible refine (pair_lit _ _ _ _ _).mono ?_); rintro e V ⟨he, hb⟩; (first | rw [hp] at he | rw [hpg] at he); subst he; replace a1 := a1.below hb; replace hB := hB.trans (hb.mono hB.size); replace ka := a1.cells; replace g1 := g1.below hb; replace kg := g1.cells; dsimp only at kg; clear hb) | (go_at_call 33; (first | with_reducible refine (newer_agg _ _ _).mono ?_ | with_reducible refine (newer_lit _ _ _ _ _ _ _ _ _).mono ?_); rintro e V ⟨he, hb⟩; rw [hnw] at he; subst he; replace a1 := a1.below hb; replace hB := hB.trans (hb.mono hB.size); replace ka := a1.cells; replace g1 := g1.below hb; replace kg := g1.cells; dsimp only at kg; clear hb) | (go_at_call 34; refine (law19_wakes _).mono ?_; rintro e V ⟨rfl, hb⟩; replace a1 := a1.below hb; replace hB := hB.trans (hb.mono hB.size); replace ka := a1.cells; replace g1 := g1.below hb; replace kg := g1.cells; dsimp only at kg; clear hb))
        go_ret
        exact ⟨rfl, hB⟩
    | true =>
      have hpg := hpp hp
      clear hpp
      rcases hcase with ⟨hc1, hc2, rfl⟩ | ⟨hc1, hc2, rfl, hnw⟩
      all_goals
        go_wp2_with (first | (with_reducible refine wpList_load_item (t := _) _ _ ?hg ?hw ?hx ?_; (case hx => rfl); (case hg => with_reducible first | exact a1 | exact g1); (case hw => rfl)) | (go_at_call 37; (first | with_reducible refine (pair_agg _ _).mono ?_ | with_reducible refine (pair_lit _ _ _ _ _).mono ?_); rintro e V ⟨he, hb⟩; (first | rw [hp] at he | rw [hpg] at he); subst he; replace a1 := a1.below hb; replace hB := hB.trans (hb.mono hB.size); replace ka := a1.cells; replace g1 := g1.below hb; replace kg := g1.cells; dsimp only at kg; clear hb) | (go_at_call 33; (first | with_reducible refine (newer_agg _ _ _).mono ?_ | with_reducible refine (newer_lit _ _ _ _ _ _ _ _ _).mono ?_); rintro e V ⟨he, hb⟩; rw [hnw] at he; subst he; replace a1 := a1.below hb; replace hB := hB.trans (hb.mono hB.size); replace ka := a1.cells; replace g1 := g1.below hb; replace kg := g1.cells; dsimp only at kg; clear hb) | (go_at_call 34; refine (law19_wakes _).mono ?_; rintro e V ⟨rfl, hb⟩; replace a1 := a1.below hb; replace hB := hB.trans (hb.mono hB.size); replace ka := a1.cells; replace g1 := g1.below hb; replace kg := g1.cells; dsimp only at kg; clear hb))
        go_ret
        exact ⟨rfl, hB⟩
end Go.Proofs.Ytbjgfcempfpfcaa
