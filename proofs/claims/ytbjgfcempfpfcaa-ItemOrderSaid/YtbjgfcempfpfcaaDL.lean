/- The law ItemOrder. -/
import Derived.Test.YtbjgfcempfpfcaaDK
namespace Go.Proofs.Ytbjgfcempfpfcaa
open Go.RowKit Go.Shelf

theorem order_cases (a b c : It) : ∃ (ev ew eg gv gw xab xbc xac : Bool) (n : Int), (a.version == b.version) = ev ∧ (a.value == b.value) = ew ∧ (a.gone == b.gone) = eg ∧ decide (b.version < a.version) = gv ∧ decide (b.value < a.value) = gw ∧
    cmpI a b = n ∧ cmpI b a = -n ∧ newerI a b = xab ∧ newerI b c = xbc ∧ newerI a c = xac ∧
    ((ev = true ∧ ew = true ∧ eg = true ∧ n = 0 ∧ xab = false) ∨
     (ev = true ∧ ew = true ∧ eg = false ∧ n = -1 ∧ xab = false) ∨ (ev = true ∧ ew = true ∧ eg = false ∧ n = 1 ∧ xab = true ∧ xbc = true ∧ xac = true) ∨ (ev = true ∧ ew = true ∧ eg = false ∧ n = 1 ∧ xab = true ∧ xbc = false) ∨
     (ev = true ∧ ew = false ∧ gw = false ∧ n = -1 ∧ xab = false) ∨ (ev = true ∧ ew = false ∧ gw = true ∧ n = 1 ∧ xab = true ∧ xbc = true ∧ xac = true) ∨ (ev = true ∧ ew = false ∧ gw = true ∧ n = 1 ∧ xab = true ∧ xbc = false) ∨
     (ev = false ∧ gv = false ∧ n = -1 ∧ xab = false) ∨ (ev = false ∧ gv = true ∧ n = 1 ∧ xab = true ∧ xbc = true ∧ xac = true) ∨ (ev = false ∧ gv = true ∧ n = 1 ∧ xab = true ∧ xbc = false)) := by
  refine ⟨_, _, _, _, _, _, _, _, _, rfl, rfl, rfl, rfl, rfl, rfl, cmpI_swap a b, rfl, rfl, rfl, ?_⟩
  have ht : newerI a b = true → newerI b c = true → newerI a c = true := newer_trans
  have hg := goneI_cases a
  have hg2 := goneI_cases b
  cases e1 : (a.version == b.version) with
  | false =>
    right; right; right; right; right; right; right
    have h1 : a.version ≠ b.version := by simpa using e1
    rcases cmpI_cases a b with ⟨h, e⟩ | ⟨h, e⟩ | ⟨h, e⟩
    · left
      exact ⟨rfl, decide_eq_false (by unfold lessI at h; omega), e, by rw [newerI, e]; rfl⟩
    · have hn : newerI a b = true := by rw [newerI, e]; rfl
      have hd : decide (b.version < a.version) = true := decide_eq_true (by unfold lessI at h; omega)
      cases eb : newerI b c with
      | true => exact .inr (.inl ⟨rfl, hd, e, hn, rfl, ht hn eb⟩)
      | false => exact .inr (.inr ⟨rfl, hd, e, hn, rfl⟩)
    · exact absurd h.1 h1
  | true =>
    have h1 : a.version = b.version := by simpa using e1
    cases e2 : (a.value == b.value) with
    | false =>
      right; right; right; right
      have h2 : a.value ≠ b.value := by simpa using e2
      rcases cmpI_cases a b with ⟨h, e⟩ | ⟨h, e⟩ | ⟨h, e⟩
      · left
        exact ⟨rfl, rfl, decide_eq_false (by unfold lessI at h; omega), e, by rw [newerI, e]; rfl⟩
      · right
        have hn : newerI a b = true := by rw [newerI, e]; rfl
        have hd : decide (b.value < a.value) = true := decide_eq_true (by unfold lessI at h; omega)
        cases eb : newerI b c with
        | true => exact .inl ⟨rfl, rfl, hd, e, hn, rfl, ht hn eb⟩
        | false => exact .inr (.inl ⟨rfl, rfl, hd, e, hn, rfl⟩)
      · exact absurd h.2.1 h2
    | true =>
      have h2 : a.value = b.value := by simpa using e2
      cases e3 : (a.gone == b.gone) with
      | true =>
        left
        have h3 : a.gone = b.gone := by simpa using e3
        rcases cmpI_cases a b with ⟨h, e⟩ | ⟨h, e⟩ | ⟨h, e⟩
        · exact absurd (alike_gone.2 ⟨h1, h2, h3⟩) (lessI_alike h)
        · exact absurd (alike_comm.1 (alike_gone.2 ⟨h1, h2, h3⟩)) (lessI_alike h)
        · exact ⟨rfl, rfl, rfl, e, by rw [newerI, e]; rfl⟩
      | false =>
        right
        have h3 : a.gone ≠ b.gone := by simpa using e3
        rcases cmpI_cases a b with ⟨h, e⟩ | ⟨h, e⟩ | ⟨h, e⟩
        · exact .inl ⟨rfl, rfl, rfl, e, by rw [newerI, e]; rfl⟩
        · have hn : newerI a b = true := by rw [newerI, e]; rfl
          cases eb : newerI b c with
          | true => exact .inr (.inl ⟨rfl, rfl, rfl, e, hn, rfl, ht hn eb⟩)
          | false => exact .inr (.inr (.inl ⟨rfl, rfl, rfl, e, hn, rfl⟩))
        · exact absurd (alike_gone.1 h).2.2 h3

set_option maxRecDepth 100000 in
set_option maxHeartbeats 20000000 in
theorem law_ItemOrder (a b c : It) (w : World) : Calls Try.prog 8 #[a.v, b.v, c.v] w fun e w' => e = .returned (.bool true) ∧ Below w.heap.size w w' := by
  obtain ⟨ev, ew, eg, gv, gw, xab, xbc, xac, n, hev, hew, heg, hgv, hgw, hab, hba, nab, nbc, nac, hc⟩ := order_cases a b c
  unfold It.v
  go_enter Try.func8, Try.ntmps8
  go_upto_region 1 with (fail)
  refine name_world fun W0 hW0 => ?_
  have hB : Below w.heap.size w W0 := by rw [← hW0]; exact (two_more _ _).trans ((one_more _).mono (two_more (w := w) _ _).size)
  have a1 : IBox W0 w.heap.size a := by rw [← hW0]; exact ((IBox.new w a).below (one_more _)).below (one_more _)
  have b1 : IBox W0 (w.heap.size + 1) b := by rw [← hW0]; exact (IBox.second w _ b).below (one_more _)
  have c1 : IBox W0 (w.heap.size + 1 + 1) c := by rw [← hW0]; have := IBox.new ((w.alloc (.cells a.cells 40)).alloc (.cells b.cells 40)) c; simpa using this
  have ka := a1.cells
  have kb := b1.cells
  have kc := c1.cells
  clear hW0
  rcases hc with ⟨rfl, rfl, rfl, rfl, rfl⟩ | ⟨rfl, rfl, rfl, rfl, rfl⟩ | ⟨rfl, rfl, rfl, rfl, rfl, rfl, rfl⟩ | ⟨rfl, rfl, rfl, rfl, rfl, rfl⟩ | ⟨rfl, rfl, rfl, rfl, rfl⟩ | ⟨rfl, rfl, rfl, rfl, rfl, rfl, rfl⟩ | ⟨rfl, rfl, rfl, rfl, rfl, rfl⟩ | ⟨rfl, rfl, rfl, rfl⟩ | ⟨rfl, rfl, rfl, rfl, rfl, rfl⟩ | ⟨rfl, rfl, rfl, rfl, rfl⟩
  all_goals
    go_wp2_with (first | (with_reducible refine wpList_load_item (t := _) _ _ ?hg ?hw ?hx ?_; (case hx => rfl); (case hg => with_reducible first | exact a1 | exact b1 | exact c1); (case hw => rfl)) | (go_at_call 32; (first | with_reducible refine (cmp_agg _ _ _).mono ?_ | with_reducible refine (cmp_lit _ _ _ _ _ _ _ _ _).mono ?_); rintro e V ⟨he, hb⟩; (first | rw [hab] at he | rw [hba] at he); subst he; replace a1 := a1.below hb; replace b1 := b1.below hb; replace c1 := c1.below hb; replace hB := hB.trans (hb.mono hB.size); replace ka := a1.cells; replace kb := b1.cells; replace kc := c1.cells; clear hb) | (go_at_call 33; (first | with_reducible refine (newer_agg _ _ _).mono ?_ | with_reducible refine (newer_lit _ _ _ _ _ _ _ _ _).mono ?_); rintro e V ⟨he, hb⟩; (first | rw [nab] at he | rw [nbc] at he | rw [nac] at he); subst he; replace a1 := a1.below hb; replace b1 := b1.below hb; replace c1 := c1.below hb; replace hB := hB.trans (hb.mono hB.size); replace ka := a1.cells; replace kb := b1.cells; replace kc := c1.cells; clear hb) | (go_at_call 34; refine (law19_wakes _).mono ?_; rintro e V ⟨rfl, hb⟩; replace a1 := a1.below hb; replace b1 := b1.below hb; replace c1 := c1.below hb; replace hB := hB.trans (hb.mono hB.size); replace ka := a1.cells; replace kb := b1.cells; replace kc := c1.cells; clear hb))
    go_ret
    exact ⟨rfl, hB⟩
end Go.Proofs.Ytbjgfcempfpfcaa
