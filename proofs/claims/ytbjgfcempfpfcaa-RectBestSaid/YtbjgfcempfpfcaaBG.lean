/- The law RectBest. -/
import Derived.Test.YtbjgfcempfpfcaaBC
namespace Go.Proofs.Ytbjgfcempfpfcaa
open Go.RowKit Go.Shelf

theorem rev_next {l : List Int} {k : Nat} (h : k < l.length) : (l.take (k + 1)).reverse = nth l k :: (l.take k).reverse := by
  rw [nth_eq h, List.take_succ_eq_append_getElem h, List.reverse_append]; rfl
theorem best_next (d b : Int) {l : List Int} {k : Nat} (h : k < l.length) : bestL d b (l.take (k + 1)) = bestS d (bestL d b (l.take k)) (nth l k) := by
  rw [nth_eq h, List.take_succ_eq_append_getElem h, bestL, List.foldl_append]; rfl
theorem append_one {W w1 : World} {e : TypeId} {v1 : Value} {a : Int} {xs ys : List Int} {o : Obj} (hy : ys = a :: xs) (h : w1.ownsRow W.heap.size e 1 v1 (1 + xs.length) ([.int .i64 a] ++ iv xs)) (hg : (W.alloc o).grownBy w1 (Value.ownBlock (.slice (some ⟨W.heap.size, 0, none⟩) 1 1))) (hsm : ys.length ≤ 17592186044416) :
    ∃ A c, v1 = .slice A ys.length c ∧ Sl w1 A c ys ∧ (∀ b off, A = some ⟨b, off, none⟩ → W.heap.size ≤ b) ∧ Below W.heap.size W w1 := by
  subst hy
  obtain ⟨A, c, h1, h2, h3⟩ := sl_of_own (xs := a :: xs) h hsm
  exact ⟨A, c, h1, h2, h3, ((Below.refl W.heap.size W).alloc (Nat.le_refl _) _).grown hg (by simp) (fun k hk => by simp [Value.ownBlock] at hk; omega)⟩
theorem Has.drewN {w W : World} {B : Nat} {x : View} {A1 A2 : Option Addr} {c1 c2 : Nat} (h : Has w W B x A1 c1 A2 c2) (n : Nat) : Has w (W.drewN n) B x A1 c1 A2 c2 := ⟨h.box, h.rep.base.drewN n, h.rep.list.drewN n⟩
theorem best_cases (d b n : Int) (P : Prop)
    (c1 : decide (0 ≤ n) = false → Hid (bestS d b n = b) → P)
    (c2 : decide (0 ≤ n) = true → decide (n < 65536) = false → Hid (bestS d b n = b) → P)
    (c3 : decide (0 ≤ n) = true → decide (n < 65536) = true → (n != d) = false → Hid (bestS d b n = b) → P)
    (c4 : decide (0 ≤ n) = true → decide (n < 65536) = true → (n != d) = true → decide (b < 0) = true → Hid (bestS d b n = n) → P)
    (c5 : decide (0 ≤ n) = true → decide (n < 65536) = true → (n != d) = true → decide (b < 0) = false → decide (far n d < far b d) = true → Hid (bestS d b n = n) → P)
    (c6 : decide (0 ≤ n) = true → decide (n < 65536) = true → (n != d) = true → decide (b < 0) = false → decide (far n d < far b d) = false → Hid (bestS d b n = b) → P) : P := by
  have no : ∀ {p : Prop} [Decidable p], decide p = false → ¬ p := fun h => of_decide_eq_false h
  cases e1 : decide (0 ≤ n) with
  | false => exact c1 e1 (Lib.hid (if_neg fun h => no e1 h.1))
  | true =>
    cases e2 : decide (n < 65536) with
    | false => exact c2 e1 e2 (Lib.hid (if_neg fun h => no e2 h.2.1))
    | true =>
      cases e3 : (n != d) with
      | false => exact c3 e1 e2 e3 (Lib.hid (if_neg fun h => by simp at e3; exact h.2.2.1 e3))
      | true =>
        have hn : n ≠ d := by simpa using e3
        cases e4 : decide (b < 0) with
        | true => exact c4 e1 e2 e3 e4 (Lib.hid (if_pos ⟨of_decide_eq_true e1, of_decide_eq_true e2, hn, .inl (of_decide_eq_true e4)⟩))
        | false =>
          cases e5 : decide (far n d < far b d) with
          | true => exact c5 e1 e2 e3 e4 e5 (Lib.hid (if_pos ⟨of_decide_eq_true e1, of_decide_eq_true e2, hn, .inr (of_decide_eq_true e5)⟩))
          | false => exact c6 e1 e2 e3 e4 e5 (Lib.hid (if_neg fun h => h.2.2.2.elim (no e4) (no e5)))

set_option maxRecDepth 100000 in
set_option maxHeartbeats 8000000 in
theorem law_RectBest_main (x : View) (A1 A2 : Option Addr) (c1 c2 : Nat) (A3 : Option Addr) (c3 : Nat) (l : List Int) (w : World) (h : RepV w x A1 c1 A2 c2) (hs : Sl w A3 c3 l) (hg : greatV x = false) (hr : rightV x = true) (hl : decide (60 < (l.length : Int)) = false) :
    Calls Try.prog 4 #[x.v A1 c1 A2 c2, .slice A3 l.length c3] w fun e w' => e = .returned (.bool true) ∧ Below w.heap.size w w' := by
  obtain ⟨i0, hi, hz0, hz1, hz2⟩ := info_parts Try.info_int
  have hsm := hs.small
  unfold View.v
  go_enter Try.func4, Try.ntmps4
  go_upto_region 1 with (fail)
  refine name_world fun W0 hW0 => ?_
  have hT := one_start hW0
  clear hW0
  have hv0 : Has w W0 w.heap.size x A1 c1 A2 c2 := ⟨hT.box, h.below hT.b⟩
  have hB0 := hT.b
  clear hT
  go_upto_region 3 with (first | (refine wpList_load_view (t := 2) x A1 A2 c1 c2 w.heap.size ?hg ?hw ?hx ?_; (case hg => exact hv0.box); (case hw => rfl); (case hx => rfl)) | (go_at_call 16; refine (r15_Great x A1 A2 c1 c2 _).mono ?_; rintro e W1 ⟨he, hb1⟩; rw [hg] at he; subst he; have hv1 := hv0.below hb1; have hB1 := hB0.trans (hb1.mono hB0.size)) | (refine wpList_load_view (t := 2) x A1 A2 c1 c2 w.heap.size ?hg ?hw ?hx ?_; (case hg => exact hv1.box); (case hw => rfl); (case hx => rfl)) | (go_at_call 29; refine (r13_Right x A1 A2 c1 c2 _ hv1.rep.base hv1.rep.list).mono ?_; rintro e W2 ⟨he, hb2⟩; rw [hr] at he; subst he; have hv2 := hv1.below hb2; have hB2 := hB1.trans (hb2.mono hB1.size)))
  have p3 := hv2.box.cells.2.2.2.1
  have HV := Lib.hid (And.intro hv2 (And.intro hB2 (hs.below hB2)))
  clear hv0 hB0 hb1 hv1 hB1 hb2 hv2 hB2 h hs
  go_wp2
  go_loopw [5, 6, 7] (fun t5 t6 t7 wr => ∃ k : Nat, k ≤ l.length ∧ t5 = .int .i64 (bestL x.id x.pred (l.take k)) ∧ (∃ Ab cb, t6 = .slice Ab (l.take k).reverse.length cb ∧ Hid (Sl wr Ab cb (l.take k).reverse)) ∧ t7 = .int .i64 k ∧ Hid (Has w wr w.heap.size x A1 c1 A2 c2 ∧ Below w.heap.size w wr ∧ Sl wr A3 c3 l)) (fun t5 t6 t7 _ => l.length - (intOf t7).toNat)
  case atStart => exact ⟨0, Nat.zero_le _, rfl, ⟨none, 0, rfl, Lib.hid (Sl.nil _)⟩, rfl, HV⟩
  case round =>
    clear HV p3
    obtain ⟨k, hk, rfl, ⟨Ab, cb, rfl, hbk⟩, rfl, hV⟩ := hrel
    have hcap := hV.out.2.2.cap
    by_cases hlt : k < l.length
    · skip
      obtain ⟨b, off, rfl, hbl, -⟩ := hV.out.2.2.at_ (by omega)
      have hc0 := hV.out.2.2.cell hlt
      go_upto_region 8 with (fail)
      go_upto_region 9 with (at_builtin; refine wpList_append_sl _ rfl (.tmp 36) (.tmp 37) _ rfl wr.heap.size 3 i0 _ 8 Try.underlying22 hi hz0 hz1 hz2 rfl (.slice (some ⟨wr.heap.size, 0, none⟩) 1 1) 1 [.int .i64 (nth l k)] rfl (World.ownsRow_lit wr #[.int .i64 (nth l k)] 1 (Nat.le_refl _) (by decide) rfl) Ab cb (l.take k).reverse rfl (hbk.out.alloc _) ?h1 ?h2 ?h3 ?_; (case h1 => simp only [maxLen, List.length_reverse, List.length_take]; omega); (case h2 => simp only [List.length_reverse, List.length_take]; omega); (case h3 => simp); intro v1 w1 hown1 hg1 hat1; obtain ⟨E1, f1, rfl, hs1, hf1, hb1⟩ := append_one (rev_next hlt) hown1 hg1 (by simp only [List.length_reverse, List.length_take]; omega); clear hown1 hg1 hat1)
      have hv1 := hV.out.1.below hb1
      have hB1 := hV.out.2.1.trans (hb1.mono hV.out.2.1.size)
      have hl1 := hV.out.2.2.below hb1
      have hc1 := hl1.cell hlt
      have q0 := hv1.box.cells.1
      have HA := Lib.hid (And.intro hv1 (And.intro hB1 (And.intro hl1 hs1)))
      clear hv1 hB1 hl1 hs1 hf1 hb1 hV hbk hc0
      refine best_cases x.id (bestL x.id x.pred (l.take k)) (nth l k) _ ?_ ?_ ?_ ?_ ?_ ?_ <;> intros <;> rename_i HN
      all_goals
        go_quiet (fail)
        go_upto_region 10 with (fail)
        refine name_world fun w2 hw2 => ?_
        have HA2 := Lib.hid (hw2 ▸ And.intro (HA.out.1.drewN nq) (And.intro (Below.drewN HA.out.2.1 nq) (And.intro (HA.out.2.2.1.drewN nq) (HA.out.2.2.2.drewN nq))) : Has w w2 w.heap.size x A1 c1 A2 c2 ∧ Below w.heap.size w w2 ∧ Sl w2 (some ⟨b, off, none⟩) c3 l ∧ Sl w2 E1 f1 (l.take (k + 1)).reverse)
        have hc2 := HA2.out.2.2.1.cell hlt
        have q2 := HA2.out.1.box.cells.1
        clear hw2 HA hc1 q0
        go_quiet ((go_at_call 30; exact qs (r03_Far _ _ _) rfl))
        go_wp2
        go_roundw
        · exact ⟨k + 1, by omega, by rw [best_next _ _ hlt, HN.out], ⟨E1, f1, by simp, Lib.hid (HA2.out.2.2.2.drewN _)⟩, by go_num, Lib.hid ⟨HA2.out.1.drewN _, Below.drewN HA2.out.2.1 _, HA2.out.2.2.1.drewN _⟩⟩
        · simp [intOf]; omega
    · obtain rfl : k = l.length := by omega
      rw [List.take_length] at hbk ⊢
      obtain ⟨bk, hbe⟩ : ∃ bk, l.reverse = bk := ⟨_, rfl⟩
      rw [hbe] at hbk ⊢
      have HBE := Lib.hid hbe
      clear hbe
      go_upto_region 12 with (fail)
      obtain ⟨hv, hB, hs⟩ := hV.out
      have hk := hbk.out
      clear hV hbk hlt hcap
      refine wp_region_lit ?_
      (refine wpList_load_view (t := 2) x A1 A2 c1 c2 w.heap.size ?hg ?hw ?hx ?_; (case hg => exact hv.box); (case hw => rfl); (case hx => rfl))
      go_upto_region 13 with (first | (go_at_call 31; refine (r13_Own x A1 A2 c1 c2 _ hv.rep).mono ?_; rintro e W1 ⟨S1, s1, S2, s2, rfl, rs1, hb1, -, -⟩) | (refine wpList_store_row rfl 25 (.tmp 9) (.tmp 84) rfl W1.heap.size (x.cells S1 s1 S2 s2) rfl rfl 25 (View.zero.cells none 0 none 0) (VBox.new W1 View.zero none 0 none 0) (view_size _ _ _ _ _) rfl (View.oneCell _ _ _ _ _) ?_))
      refine name_world fun W2 hW2 => ?_
      obtain ⟨hw2, hb2⟩ := has_new (w := w) rs1 hW2
      have rv1 := hv.rep.below hb1
      have rl1 := hs.below hb1
      have rk1 := hk.below hb1
      have hv2 := (hv.below hb1).below hb2
      have hs2 := rl1.below hb2
      have hk2 := rk1.below hb2
      have hB2 := (hB.trans (hb1.mono hB.size)).trans (hb2.mono (hB.trans (hb1.mono hB.size)).size)
      have l9 : w.heap.size < W1.heap.size := Nat.lt_of_lt_of_le hv.box.lt hb1.size
      clear hW2 hv hB hs hk hb1 hb2
      obtain ⟨B9, hB9⟩ : ∃ B, W1.heap.size = B := ⟨_, rfl⟩
      rw [hB9] at hw2 l9 ⊢
      have hle : W1.heap.size ≤ B9 := by omega
      clear hB9
      have p3 := hw2.box.cells.2.2.2.1
      have p4 := hw2.box.frozen
      go_upto_region 14 with (fail)
      refine name_world fun W3 hW3 => ?_
      have hw3 : Has w W3 B9 (x.withPred (bestL x.id x.pred l)) S1 s1 S2 s2 := by rw [← hW3]; exact Has.setPred rs1 hw2 _ hle
      have hv3 : Has w W3 w.heap.size x A1 c1 A2 c2 := by rw [← hW3]; exact Has.setNew rv1 hv2 _ _ hle (by show w.heap.size ≠ B9; omega)
      have hs3 : Sl W3 A3 c3 l := by rw [← hW3]; exact Sl.setNew rl1 hs2 _ _ hle
      have hk3 : Sl W3 Ab cb bk := by rw [← hW3]; exact Sl.setNew rk1 hk2 _ _ hle
      have hB3 : Below w.heap.size w W3 := by rw [← hW3]; exact hB2.setCell (p := ⟨B9, 3, none⟩) (by show w.heap.size ≤ B9; omega) _
      clear hW3 hv2 hw2 hs2 hk2 hB2 p3 p4 rs1 rv1 rl1 rk1
      refine wp_region_lit ?_
      (refine wpList_load_view (t := 2) x A1 A2 c1 c2 w.heap.size ?hg ?hw ?hx ?_; (case hg => exact hv3.box); (case hw => rfl); (case hx => rfl))
      go_upto_region 15 with (first | (go_at_call 23; refine (rect_Notify x A1 A2 c1 c2 _ hv3.rep _ _ l hs3).mono ?_; rintro e W4 ⟨U1, u1, U2, u2, rfl, rn4, hb4, -, -⟩) | (refine wpList_store_row rfl 25 (.tmp 10) (.tmp 89) rfl W4.heap.size ((notifyV x l).cells U1 u1 U2 u2) rfl rfl 25 (View.zero.cells none 0 none 0) (VBox.new W4 View.zero none 0 none 0) (view_size _ _ _ _ _) rfl (View.oneCell _ _ _ _ _) ?_))
      refine name_world fun W5 hW5 => ?_
      obtain ⟨hn5, hb5⟩ := has_new (w := w) rn4 hW5
      have hv5 := (hv3.below hb4).below hb5
      have hw5 := (hw3.below hb4).below hb5
      have hs5 := (hs3.below hb4).below hb5
      have hk5 := (hk3.below hb4).below hb5
      have hB5 := (hB3.trans (hb4.mono hB3.size)).trans (hb5.mono (hB3.trans (hb4.mono hB3.size)).size)
      clear hW5 hv3 hw3 hs3 hk3 hB3 hb4 hb5 rn4
      obtain ⟨B10, hB10⟩ : ∃ B, W4.heap.size = B := ⟨_, rfl⟩
      rw [hB10] at hn5 ⊢
      clear hB10
      obtain ⟨f1, f2, f3, f4, f5⟩ := best_words hr l
      rw [HBE.out] at f2
      refine wp_region_held_drew (S := (fun w' => Has w w' w.heap.size x A1 c1 A2 c2 ∧ Has w w' B9 (x.withPred (bestL x.id x.pred l)) S1 s1 S2 s2 ∧ Has w w' B10 (notifyV x l) U1 u1 U2 u2 ∧ Sl w' A3 c3 l ∧ Sl w' Ab cb bk ∧ Below w.heap.size w w')) (by kernel_rfl) ⟨hv5.below ((Below.refl _ _).drew), hw5.below ((Below.refl _ _).drew), hn5.below ((Below.refl _ _).drew), hs5.below ((Below.refl _ _).drew), hk5.below ((Below.refl _ _).drew), hB5.drew⟩ (fun hHeld => ?_)
      refine wpAnyH_take (i := 0) (oi := { dst := some 90, op := Op.load 25 (Operand.tmp 10), type := 25, pos := "law.go:55", after := #[], guard := none }) (v := .agg ((notifyV x l).cells U1 u1 U2 u2)) rfl (by kernel_rfl) (by kernel_rfl) (by kernel_rfl) (fun _ _ _ h => h) (yields_view (t := 10) (notifyV x l) U1 U2 u1 u2 B10 (by kernel_rfl) rfl (fun w h => h.2.2.1.box)) hHeld ?_
      simp only [Act.put, List.setIfInBounds_toArray, List.set_cons_zero, List.set_cons_succ]
      refine wpAnyH_take (i := 1) (oi := { dst := some 91, op := Op.load 25 (Operand.tmp 9), type := 25, pos := "law.go:55", after := #[], guard := none }) (v := .agg ((x.withPred (bestL x.id x.pred l)).cells S1 s1 S2 s2)) rfl (by kernel_rfl) (by kernel_rfl) (by kernel_rfl) (fun _ _ _ h => h) (yields_view (t := 9) (x.withPred (bestL x.id x.pred l)) S1 S2 s1 s2 B9 (by kernel_rfl) rfl (fun w h => h.2.1.box)) hHeld ?_
      simp only [Act.put, List.setIfInBounds_toArray, List.set_cons_zero, List.set_cons_succ]
      refine wpAnyH_ready (rs := [2]) (by kernel_rfl) (by simp) ?_
      refine AllReadyH.cons (o := { dst := some 92, op := Op.call { callee := Callee.value (Operand.func 22), args := #[Operand.tmp 90, Operand.tmp 91], argTypes := #[25, 25] }, type := 4, pos := "law.go:55", after := #[{ on := 0, ground := Ground.data }, { on := 1, ground := Ground.data }], guard := none }) rfl (fun K hK => ?_) AllReadyH.nil
      go_simp
      go_wp2_with (go_at_call 22; refine (r13_Same (notifyV x l) (x.withPred (bestL x.id x.pred l)) U1 U2 S1 S2 u1 u2 s1 s2 _ hHeld.2.2.1.rep hHeld.2.1.rep).mono ?_; rintro e V ⟨he, hb⟩; rw [f1] at he; subst he)
      refine hK.out _ _ ⟨hHeld.1.below hb, hHeld.2.1.below hb, hHeld.2.2.1.below hb, hHeld.2.2.2.1.below hb, hHeld.2.2.2.2.1.below hb, hHeld.2.2.2.2.2.trans (hb.mono hHeld.2.2.2.2.2.size)⟩ (fun hHeld => ?_)
      clear hK K
      refine wpAnyH_take (i := 3) (oi := { dst := some 93, op := Op.move (Operand.tmp 92), type := 4, pos := "law.go:55", after := #[{ on := 2, ground := Ground.data }, { on := 2, ground := Ground.chain }], guard := none }) (v := ?_) rfl (by kernel_rfl) (by kernel_rfl) (by kernel_rfl) (fun _ _ _ h => h) (Or.inl ⟨by kernel_rfl, ?_⟩) hHeld ?_
      rotate_left
      · intro w hSw; go_simp; try with_reducible rfl
      simp only [Act.put, List.setIfInBounds_toArray, List.set_cons_zero, List.set_cons_succ]
      refine wpAnyH_take (i := 4) (oi := { dst := some 94, op := Op.load 25 (Operand.tmp 2), type := 25, pos := "law.go:55", after := #[{ on := 3, ground := Ground.guard }], guard := some (3, true) }) (v := .agg (x.cells A1 c1 A2 c2)) rfl (by kernel_rfl) (by kernel_rfl) (by kernel_rfl) (fun _ _ _ h => h) (yields_view (t := 2) x A1 A2 c1 c2 w.heap.size (by kernel_rfl) rfl (fun w h => h.1.box)) hHeld ?_
      simp only [Act.put, List.setIfInBounds_toArray, List.set_cons_zero, List.set_cons_succ]
      refine wpAnyH_take (i := 5) (oi := { dst := some 95, op := Op.move (Operand.tmp 6), type := 22, pos := "law.go:55", after := #[{ on := 3, ground := Ground.guard }], guard := some (3, true) }) (v := ?_) rfl (by kernel_rfl) (by kernel_rfl) (by kernel_rfl) (fun _ _ _ h => h) (Or.inl ⟨by kernel_rfl, ?_⟩) hHeld ?_
      rotate_left
      · intro w hSw; go_simp; try with_reducible rfl
      simp only [Act.put, List.setIfInBounds_toArray, List.set_cons_zero, List.set_cons_succ]
      refine wpAnyH_take (i := 7) (oi := { dst := some 97, op := Op.load 25 (Operand.tmp 9), type := 25, pos := "law.go:55", after := #[{ on := 3, ground := Ground.guard }], guard := some (3, true) }) (v := .agg ((x.withPred (bestL x.id x.pred l)).cells S1 s1 S2 s2)) rfl (by kernel_rfl) (by kernel_rfl) (by kernel_rfl) (fun _ _ _ h => h) (yields_view (t := 9) (x.withPred (bestL x.id x.pred l)) S1 S2 s1 s2 B9 (by kernel_rfl) rfl (fun w h => h.2.1.box)) hHeld ?_
      simp only [Act.put, List.setIfInBounds_toArray, List.set_cons_zero, List.set_cons_succ]
      refine wpAnyH_ready (rs := [6]) (by kernel_rfl) (by simp) ?_
      refine AllReadyH.cons (o := { dst := some 96, op := Op.call { callee := Callee.value (Operand.func 23), args := #[Operand.tmp 94, Operand.tmp 95], argTypes := #[25, 22] }, type := 25, pos := "law.go:55", after := #[{ on := 4, ground := Ground.data }, { on := 5, ground := Ground.data }, { on := 3, ground := Ground.chain }, { on := 3, ground := Ground.guard }], guard := some (3, true) }) rfl (fun K hK => ?_) AllReadyH.nil
      go_simp
      go_wp2_with (go_at_call 23; refine (rect_Notify x A1 A2 c1 c2 _ hHeld.1.rep _ _ bk hHeld.2.2.2.2.1).mono ?_; rintro e V ⟨E1, e1, E2, e2, rfl, rk, hb, -, -⟩)
      refine hK.out _ _ ⟨hHeld.1.below hb, hHeld.2.1.below hb, hHeld.2.2.1.below hb, hHeld.2.2.2.1.below hb, hHeld.2.2.2.2.1.below hb, hHeld.2.2.2.2.2.trans (hb.mono hHeld.2.2.2.2.2.size)⟩ (fun hHeld => ?_)
      clear hK K
      refine wpAnyH_ready (rs := [8]) (by kernel_rfl) (by simp) ?_
      refine AllReadyH.cons (o := { dst := some 98, op := Op.call { callee := Callee.value (Operand.func 22), args := #[Operand.tmp 96, Operand.tmp 97], argTypes := #[25, 25] }, type := 4, pos := "law.go:55", after := #[{ on := 6, ground := Ground.data }, { on := 7, ground := Ground.data }, { on := 6, ground := Ground.chain }, { on := 3, ground := Ground.guard }], guard := some (3, true) }) rfl (fun K hK => ?_) AllReadyH.nil
      go_simp
      go_wp2_with (go_at_call 22; refine (r13_Same _ (x.withPred (bestL x.id x.pred l)) E1 E2 S1 S2 e1 e2 s1 s2 _ rk hHeld.2.1.rep).mono ?_; rintro e V ⟨he, hb⟩; rw [f2] at he; subst he)
      refine hK.out _ _ ⟨hHeld.1.below hb, hHeld.2.1.below hb, hHeld.2.2.1.below hb, hHeld.2.2.2.1.below hb, hHeld.2.2.2.2.1.below hb, hHeld.2.2.2.2.2.trans (hb.mono hHeld.2.2.2.2.2.size)⟩ (fun hHeld => ?_)
      clear hK K
      refine wpAnyH_take (i := 9) (oi := { dst := some 99, op := Op.pick (Operand.tmp 93) (Operand.tmp 98) (Operand.const (Value.bool false)), type := 4, pos := "law.go:55", after := #[{ on := 3, ground := Ground.data }, { on := 8, ground := Ground.data }], guard := none }) (v := ?_) rfl (by kernel_rfl) (by kernel_rfl) (by kernel_rfl) (fun _ _ _ h => h) (Or.inl ⟨by kernel_rfl, ?_⟩) hHeld ?_
      rotate_left
      · intro w hSw; go_simp; try with_reducible rfl
      simp only [Act.put, List.setIfInBounds_toArray, List.set_cons_zero, List.set_cons_succ]
      refine wpAnyH_take (i := 10) (oi := { dst := some 100, op := Op.move (Operand.tmp 99), type := 4, pos := "law.go:55", after := #[{ on := 9, ground := Ground.data }, { on := 8, ground := Ground.chain }], guard := none }) (v := ?_) rfl (by kernel_rfl) (by kernel_rfl) (by kernel_rfl) (fun _ _ _ h => h) (Or.inl ⟨by kernel_rfl, ?_⟩) hHeld ?_
      rotate_left
      · intro w hSw; go_simp; try with_reducible rfl
      simp only [Act.put, List.setIfInBounds_toArray, List.set_cons_zero, List.set_cons_succ]
      refine wpAnyH_take (i := 11) (oi := { dst := some 101, op := Op.load 25 (Operand.tmp 10), type := 25, pos := "law.go:55", after := #[{ on := 10, ground := Ground.guard }], guard := some (10, true) }) (v := .agg ((notifyV x l).cells U1 u1 U2 u2)) rfl (by kernel_rfl) (by kernel_rfl) (by kernel_rfl) (fun _ _ _ h => h) (yields_view (t := 10) (notifyV x l) U1 U2 u1 u2 B10 (by kernel_rfl) rfl (fun w h => h.2.2.1.box)) hHeld ?_
      simp only [Act.put, List.setIfInBounds_toArray, List.set_cons_zero, List.set_cons_succ]
      refine wpAnyH_take (i := 12) (oi := { dst := some 102, op := Op.move (Operand.tmp 1), type := 22, pos := "law.go:55", after := #[{ on := 10, ground := Ground.guard }], guard := some (10, true) }) (v := ?_) rfl (by kernel_rfl) (by kernel_rfl) (by kernel_rfl) (fun _ _ _ h => h) (Or.inl ⟨by kernel_rfl, ?_⟩) hHeld ?_
      rotate_left
      · intro w hSw; go_simp; try with_reducible rfl
      simp only [Act.put, List.setIfInBounds_toArray, List.set_cons_zero, List.set_cons_succ]
      refine wpAnyH_take (i := 14) (oi := { dst := some 104, op := Op.load 25 (Operand.tmp 9), type := 25, pos := "law.go:55", after := #[{ on := 10, ground := Ground.guard }], guard := some (10, true) }) (v := .agg ((x.withPred (bestL x.id x.pred l)).cells S1 s1 S2 s2)) rfl (by kernel_rfl) (by kernel_rfl) (by kernel_rfl) (fun _ _ _ h => h) (yields_view (t := 9) (x.withPred (bestL x.id x.pred l)) S1 S2 s1 s2 B9 (by kernel_rfl) rfl (fun w h => h.2.1.box)) hHeld ?_
      simp only [Act.put, List.setIfInBounds_toArray, List.set_cons_zero, List.set_cons_succ]
      refine wpAnyH_ready (rs := [13]) (by kernel_rfl) (by simp) ?_
      refine AllReadyH.cons (o := { dst := some 103, op := Op.call { callee := Callee.value (Operand.func 23), args := #[Operand.tmp 101, Operand.tmp 102], argTypes := #[25, 22] }, type := 25, pos := "law.go:55", after := #[{ on := 11, ground := Ground.data }, { on := 12, ground := Ground.data }, { on := 10, ground := Ground.chain }, { on := 10, ground := Ground.guard }], guard := some (10, true) }) rfl (fun K hK => ?_) AllReadyH.nil
      go_simp
      go_wp2_with (go_at_call 23; refine (rect_Notify (notifyV x l) U1 U2 u1 u2 _ hHeld.2.2.1.rep _ _ l hHeld.2.2.2.1).mono ?_; rintro e V ⟨G1, g1, G2, g2, rfl, ra, hb, -, -⟩)
      refine hK.out _ _ ⟨hHeld.1.below hb, hHeld.2.1.below hb, hHeld.2.2.1.below hb, hHeld.2.2.2.1.below hb, hHeld.2.2.2.2.1.below hb, hHeld.2.2.2.2.2.trans (hb.mono hHeld.2.2.2.2.2.size)⟩ (fun hHeld => ?_)
      clear hK K
      refine wpAnyH_ready (rs := [15]) (by kernel_rfl) (by simp) ?_
      refine AllReadyH.cons (o := { dst := some 105, op := Op.call { callee := Callee.value (Operand.func 22), args := #[Operand.tmp 103, Operand.tmp 104], argTypes := #[25, 25] }, type := 4, pos := "law.go:55", after := #[{ on := 13, ground := Ground.data }, { on := 14, ground := Ground.data }, { on := 13, ground := Ground.chain }, { on := 10, ground := Ground.guard }], guard := some (10, true) }) rfl (fun K hK => ?_) AllReadyH.nil
      go_simp
      go_wp2_with (go_at_call 22; refine (r13_Same _ (x.withPred (bestL x.id x.pred l)) G1 G2 S1 S2 g1 g2 s1 s2 _ ra hHeld.2.1.rep).mono ?_; rintro e V ⟨he, hb⟩; rw [f3] at he; subst he)
      refine hK.out _ _ ⟨hHeld.1.below hb, hHeld.2.1.below hb, hHeld.2.2.1.below hb, hHeld.2.2.2.1.below hb, hHeld.2.2.2.2.1.below hb, hHeld.2.2.2.2.2.trans (hb.mono hHeld.2.2.2.2.2.size)⟩ (fun hHeld => ?_)
      clear hK K
      refine wpAnyH_take (i := 16) (oi := { dst := some 106, op := Op.pick (Operand.tmp 100) (Operand.tmp 105) (Operand.const (Value.bool false)), type := 4, pos := "law.go:55", after := #[{ on := 10, ground := Ground.data }, { on := 15, ground := Ground.data }], guard := none }) (v := ?_) rfl (by kernel_rfl) (by kernel_rfl) (by kernel_rfl) (fun _ _ _ h => h) (Or.inl ⟨by kernel_rfl, ?_⟩) hHeld ?_
      rotate_left
      · intro w hSw; go_simp; try with_reducible rfl
      simp only [Act.put, List.setIfInBounds_toArray, List.set_cons_zero, List.set_cons_succ]
      refine wpAnyH_take (i := 17) (oi := { dst := some 107, op := Op.move (Operand.tmp 106), type := 4, pos := "law.go:55", after := #[{ on := 16, ground := Ground.data }, { on := 15, ground := Ground.chain }], guard := none }) (v := ?_) rfl (by kernel_rfl) (by kernel_rfl) (by kernel_rfl) (fun _ _ _ h => h) (Or.inl ⟨by kernel_rfl, ?_⟩) hHeld ?_
      rotate_left
      · intro w hSw; go_simp; try with_reducible rfl
      simp only [Act.put, List.setIfInBounds_toArray, List.set_cons_zero, List.set_cons_succ]
      refine wpAnyH_take (i := 18) (oi := { dst := some 108, op := Op.load 25 (Operand.tmp 10), type := 25, pos := "law.go:55", after := #[{ on := 17, ground := Ground.guard }], guard := some (17, true) }) (v := .agg ((notifyV x l).cells U1 u1 U2 u2)) rfl (by kernel_rfl) (by kernel_rfl) (by kernel_rfl) (fun _ _ _ h => h) (yields_view (t := 10) (notifyV x l) U1 U2 u1 u2 B10 (by kernel_rfl) rfl (fun w h => h.2.2.1.box)) hHeld ?_
      simp only [Act.put, List.setIfInBounds_toArray, List.set_cons_zero, List.set_cons_succ]
      refine wpAnyH_ready (rs := [19]) (by kernel_rfl) (by simp) ?_
      refine AllReadyH.cons (o := { dst := some 109, op := Op.call { callee := Callee.value (Operand.func 29), args := #[Operand.tmp 108], argTypes := #[25] }, type := 4, pos := "law.go:55", after := #[{ on := 18, ground := Ground.data }, { on := 17, ground := Ground.chain }, { on := 17, ground := Ground.guard }], guard := some (17, true) }) rfl (fun K hK => ?_) AllReadyH.nil
      go_simp
      go_wp2_with (go_at_call 29; refine (r13_Right (notifyV x l) U1 U2 u1 u2 _ hHeld.2.2.1.rep.base hHeld.2.2.1.rep.list).mono ?_; rintro e V ⟨he, hb⟩; rw [f4] at he; subst he)
      refine hK.out _ _ ⟨hHeld.1.below hb, hHeld.2.1.below hb, hHeld.2.2.1.below hb, hHeld.2.2.2.1.below hb, hHeld.2.2.2.2.1.below hb, hHeld.2.2.2.2.2.trans (hb.mono hHeld.2.2.2.2.2.size)⟩ (fun hHeld => ?_)
      clear hK K
      refine wpAnyH_take (i := 20) (oi := { dst := some 110, op := Op.pick (Operand.tmp 107) (Operand.tmp 109) (Operand.const (Value.bool false)), type := 4, pos := "law.go:55", after := #[{ on := 17, ground := Ground.data }, { on := 19, ground := Ground.data }], guard := none }) (v := ?_) rfl (by kernel_rfl) (by kernel_rfl) (by kernel_rfl) (fun _ _ _ h => h) (Or.inl ⟨by kernel_rfl, ?_⟩) hHeld ?_
      rotate_left
      · intro w hSw; go_simp; try with_reducible rfl
      simp only [Act.put, List.setIfInBounds_toArray, List.set_cons_zero, List.set_cons_succ]
      refine wpAnyH_take (i := 21) (oi := { dst := some 111, op := Op.move (Operand.tmp 110), type := 4, pos := "law.go:55", after := #[{ on := 20, ground := Ground.data }, { on := 19, ground := Ground.chain }], guard := none }) (v := ?_) rfl (by kernel_rfl) (by kernel_rfl) (by kernel_rfl) (fun _ _ _ h => h) (Or.inl ⟨by kernel_rfl, ?_⟩) hHeld ?_
      rotate_left
      · intro w hSw; go_simp; try with_reducible rfl
      simp only [Act.put, List.setIfInBounds_toArray, List.set_cons_zero, List.set_cons_succ]
      refine wpAnyH_take (i := 22) (oi := { dst := some 112, op := Op.fieldAddr 25 (Operand.tmp 10) 3, type := 0, pos := "law.go:55", after := #[{ on := 21, ground := Ground.guard }], guard := some (21, true) }) (v := ?_) rfl (by kernel_rfl) (by kernel_rfl) (by kernel_rfl) (fun _ _ _ h => h) (Or.inl ⟨by kernel_rfl, ?_⟩) hHeld ?_
      rotate_left
      · intro w hSw; go_simp; try with_reducible rfl
      simp only [Act.put, List.setIfInBounds_toArray, List.set_cons_zero, List.set_cons_succ]
      refine wpAnyH_take (i := 23) (oi := { dst := some 113, op := Op.load 3 (Operand.tmp 112), type := 3, pos := "law.go:55", after := #[{ on := 22, ground := Ground.data }, { on := 21, ground := Ground.guard }], guard := some (21, true) }) (v := ?_) rfl (by kernel_rfl) (by kernel_rfl) (by kernel_rfl) (fun _ _ _ h => h) (Or.inl ⟨by kernel_rfl, ?_⟩) hHeld ?_
      rotate_left
      · intro w hSw; have k1 := hSw.1.box.cells.1; have k3 := hSw.2.2.1.box.cells.2.2.2.1; go_simp; try with_reducible rfl
      simp only [Act.put, List.setIfInBounds_toArray, List.set_cons_zero, List.set_cons_succ]
      refine wpAnyH_take (i := 24) (oi := { dst := some 114, op := Op.fieldAddr 25 (Operand.tmp 2) 0, type := 0, pos := "law.go:55", after := #[{ on := 21, ground := Ground.guard }], guard := some (21, true) }) (v := ?_) rfl (by kernel_rfl) (by kernel_rfl) (by kernel_rfl) (fun _ _ _ h => h) (Or.inl ⟨by kernel_rfl, ?_⟩) hHeld ?_
      rotate_left
      · intro w hSw; go_simp; try with_reducible rfl
      simp only [Act.put, List.setIfInBounds_toArray, List.set_cons_zero, List.set_cons_succ]
      refine wpAnyH_take (i := 25) (oi := { dst := some 115, op := Op.load 3 (Operand.tmp 114), type := 3, pos := "law.go:55", after := #[{ on := 24, ground := Ground.data }, { on := 21, ground := Ground.guard }], guard := some (21, true) }) (v := ?_) rfl (by kernel_rfl) (by kernel_rfl) (by kernel_rfl) (fun _ _ _ h => h) (Or.inl ⟨by kernel_rfl, ?_⟩) hHeld ?_
      rotate_left
      · intro w hSw; have k1 := hSw.1.box.cells.1; have k3 := hSw.2.2.1.box.cells.2.2.2.1; go_simp; try with_reducible rfl
      simp only [Act.put, List.setIfInBounds_toArray, List.set_cons_zero, List.set_cons_succ]
      refine wpAnyH_take (i := 26) (oi := { dst := some 116, op := Op.binOp BinOp.neq 3 (Operand.tmp 113) (Operand.tmp 115) 3, type := 4, pos := "law.go:55", after := #[{ on := 23, ground := Ground.data }, { on := 25, ground := Ground.data }, { on := 21, ground := Ground.guard }], guard := some (21, true) }) (v := .bool true) rfl (by kernel_rfl) (by kernel_rfl) (by kernel_rfl) (fun _ _ _ h => h) (Or.inl ⟨by kernel_rfl, ?_⟩) hHeld ?_
      · intro w hSw; have k1 := hSw.1.box.cells.1; have k3 := hSw.2.2.1.box.cells.2.2.2.1; go_simp; all_goals (first | rfl | simp [f5])
      simp only [Act.put, List.setIfInBounds_toArray, List.set_cons_zero, List.set_cons_succ]
      refine wpAnyH_take (i := 27) (oi := { dst := some 117, op := Op.pick (Operand.tmp 111) (Operand.tmp 116) (Operand.const (Value.bool false)), type := 4, pos := "law.go:55", after := #[{ on := 21, ground := Ground.data }, { on := 26, ground := Ground.data }], guard := none }) (v := ?_) rfl (by kernel_rfl) (by kernel_rfl) (by kernel_rfl) (fun _ _ _ h => h) (Or.inl ⟨by kernel_rfl, ?_⟩) hHeld ?_
      rotate_left
      · intro w hSw; go_simp; try with_reducible rfl
      simp only [Act.put, List.setIfInBounds_toArray, List.set_cons_zero, List.set_cons_succ]
      refine wpAnyH_take (i := 28) (oi := { dst := some 118, op := Op.move (Operand.tmp 117), type := 4, pos := "law.go:55", after := #[{ on := 27, ground := Ground.data }, { on := 21, ground := Ground.chain }], guard := none }) (v := ?_) rfl (by kernel_rfl) (by kernel_rfl) (by kernel_rfl) (fun _ _ _ h => h) (Or.inl ⟨by kernel_rfl, ?_⟩) hHeld ?_
      rotate_left
      · intro w hSw; go_simp; try with_reducible rfl
      simp only [Act.put, List.setIfInBounds_toArray, List.set_cons_zero, List.set_cons_succ]
      refine wpAnyH_ready (rs := [29]) (by kernel_rfl) (by simp) ?_
      refine AllReadyH.cons (o := { dst := some 119, op := Op.call { callee := Callee.value (Operand.func 17), args := #[], argTypes := #[] }, type := 4, pos := "law.go:55", after := #[{ on := 28, ground := Ground.chain }, { on := 28, ground := Ground.guard }], guard := some (28, true) }) rfl (fun K hK => ?_) AllReadyH.nil
      go_simp
      go_wp2_with (go_at_call 17; refine (law15_wakes _).mono ?_; rintro e V ⟨rfl, hb⟩)
      refine hK.out _ _ ⟨hHeld.1.below hb, hHeld.2.1.below hb, hHeld.2.2.1.below hb, hHeld.2.2.2.1.below hb, hHeld.2.2.2.2.1.below hb, hHeld.2.2.2.2.2.trans (hb.mono hHeld.2.2.2.2.2.size)⟩ (fun hHeld => ?_)
      clear hK K
      refine wpAnyH_take (i := 30) (oi := { dst := some 120, op := Op.pick (Operand.tmp 118) (Operand.tmp 119) (Operand.const (Value.bool false)), type := 4, pos := "law.go:55", after := #[{ on := 28, ground := Ground.data }, { on := 29, ground := Ground.data }], guard := none }) (v := ?_) rfl (by kernel_rfl) (by kernel_rfl) (by kernel_rfl) (fun _ _ _ h => h) (Or.inl ⟨by kernel_rfl, ?_⟩) hHeld ?_
      rotate_left
      · intro w hSw; go_simp; try with_reducible rfl
      simp only [Act.put, List.setIfInBounds_toArray, List.set_cons_zero, List.set_cons_succ]
      refine wpAnyH_take (i := 31) (oi := { dst := some 4, op := Op.assign (Operand.tmp 120), type := 4, pos := "law.go:55", after := #[{ on := 30, ground := Ground.data }, { on := 29, ground := Ground.chain }, { on := 0, ground := Ground.phase }, { on := 1, ground := Ground.phase }, { on := 2, ground := Ground.phase }, { on := 3, ground := Ground.phase }, { on := 4, ground := Ground.phase }, { on := 5, ground := Ground.phase }, { on := 6, ground := Ground.phase }, { on := 7, ground := Ground.phase }, { on := 8, ground := Ground.phase }, { on := 9, ground := Ground.phase }, { on := 10, ground := Ground.phase }, { on := 11, ground := Ground.phase }, { on := 12, ground := Ground.phase }, { on := 13, ground := Ground.phase }, { on := 14, ground := Ground.phase }, { on := 15, ground := Ground.phase }, { on := 16, ground := Ground.phase }, { on := 17, ground := Ground.phase }, { on := 18, ground := Ground.phase }, { on := 19, ground := Ground.phase }, { on := 20, ground := Ground.phase }, { on := 21, ground := Ground.phase }, { on := 22, ground := Ground.phase }, { on := 23, ground := Ground.phase }, { on := 24, ground := Ground.phase }, { on := 25, ground := Ground.phase }, { on := 26, ground := Ground.phase }, { on := 27, ground := Ground.phase }, { on := 28, ground := Ground.phase }, { on := 29, ground := Ground.phase }, { on := 30, ground := Ground.phase }], guard := none }) (v := ?_) rfl (by kernel_rfl) (by kernel_rfl) (by kernel_rfl) (fun _ _ _ h => h) (Or.inl ⟨by kernel_rfl, ?_⟩) hHeld ?_
      rotate_left
      · intro w hSw; go_simp; try with_reducible rfl
      simp only [Act.put, List.setIfInBounds_toArray, List.set_cons_zero, List.set_cons_succ]
      refine wpAnyH_done (by kernel_rfl) ?_ _
      go_wp2
      go_ret
      exact ⟨rfl, hHeld.2.2.2.2.2⟩

set_option maxRecDepth 100000 in
set_option maxHeartbeats 1000000 in
theorem law_RectBest_great (x : View) (A1 A2 : Option Addr) (c1 c2 : Nat) (A3 : Option Addr) (c3 : Nat) (l : List Int) (w : World) (hg : greatV x = true) :
    Calls Try.prog 4 #[x.v A1 c1 A2 c2, .slice A3 l.length c3] w fun e w' => e = .returned (.bool true) ∧ Below w.heap.size w w' := by
  unfold View.v
  go_enter Try.func4, Try.ntmps4
  go_upto_region 1 with (fail)
  refine name_world fun W0 hW0 => ?_
  have hT := one_start hW0
  clear hW0
  have hv0 := hT
  have hB0 := hT.b
  clear hT
  go_wp2_with (first | (refine wpList_load_view (t := 2) x A1 A2 c1 c2 w.heap.size ?hg ?hw ?hx ?_; (case hg => exact hv0.box); (case hw => rfl); (case hx => rfl)) | (go_at_call 16; refine (r15_Great x A1 A2 c1 c2 _).mono ?_; rintro e W1 ⟨he, hb1⟩; rw [hg] at he; subst he; have hv1 := hv0.below hb1; have hB1 := hB0.trans (hb1.mono hB0.size)) | (go_at_call 17; refine (law15_wakes _).mono ?_; rintro e W9 ⟨rfl, hb9⟩; have hB9 := hB1.trans (hb9.mono hB1.size)))
  go_ret
  exact ⟨rfl, hB9⟩

set_option maxRecDepth 100000 in
set_option maxHeartbeats 1000000 in
theorem law_RectBest_bad (x : View) (A1 A2 : Option Addr) (c1 c2 : Nat) (A3 : Option Addr) (c3 : Nat) (l : List Int) (w : World) (h : RepV w x A1 c1 A2 c2) (hg : greatV x = false) (hr : rightV x = false) :
    Calls Try.prog 4 #[x.v A1 c1 A2 c2, .slice A3 l.length c3] w fun e w' => e = .returned (.bool true) ∧ Below w.heap.size w w' := by
  unfold View.v
  go_enter Try.func4, Try.ntmps4
  go_upto_region 1 with (fail)
  refine name_world fun W0 hW0 => ?_
  have hT := one_start hW0
  clear hW0
  have hv0 : Has w W0 w.heap.size x A1 c1 A2 c2 := ⟨hT.box, h.below hT.b⟩
  have hB0 := hT.b
  clear hT
  go_wp2_with (first | (refine wpList_load_view (t := 2) x A1 A2 c1 c2 w.heap.size ?hg ?hw ?hx ?_; (case hg => exact hv0.box); (case hw => rfl); (case hx => rfl)) | (go_at_call 16; refine (r15_Great x A1 A2 c1 c2 _).mono ?_; rintro e W1 ⟨he, hb1⟩; rw [hg] at he; subst he; have hv1 := hv0.below hb1; have hB1 := hB0.trans (hb1.mono hB0.size)) | (refine wpList_load_view (t := 2) x A1 A2 c1 c2 w.heap.size ?hg ?hw ?hx ?_; (case hg => exact hv1.box); (case hw => rfl); (case hx => rfl)) | (go_at_call 29; refine (r13_Right x A1 A2 c1 c2 _ hv1.rep.base hv1.rep.list).mono ?_; rintro e W2 ⟨he, hb2⟩; rw [hr] at he; subst he; have hv2 := hv1.below hb2; have hB2 := hB1.trans (hb2.mono hB1.size)) | (go_at_call 17; refine (law15_wakes _).mono ?_; rintro e W9 ⟨rfl, hb9⟩; have hB9 := hB2.trans (hb9.mono hB2.size)))
  go_ret
  exact ⟨rfl, hB9⟩

set_option maxRecDepth 100000 in
set_option maxHeartbeats 1000000 in
theorem law_RectBest_long (x : View) (A1 A2 : Option Addr) (c1 c2 : Nat) (A3 : Option Addr) (c3 : Nat) (l : List Int) (w : World) (h : RepV w x A1 c1 A2 c2) (hg : greatV x = false) (hr : rightV x = true) (hl : decide (60 < (l.length : Int)) = true) :
    Calls Try.prog 4 #[x.v A1 c1 A2 c2, .slice A3 l.length c3] w fun e w' => e = .returned (.bool true) ∧ Below w.heap.size w w' := by
  unfold View.v
  go_enter Try.func4, Try.ntmps4
  go_upto_region 1 with (fail)
  refine name_world fun W0 hW0 => ?_
  have hT := one_start hW0
  clear hW0
  have hv0 : Has w W0 w.heap.size x A1 c1 A2 c2 := ⟨hT.box, h.below hT.b⟩
  have hB0 := hT.b
  clear hT
  go_wp2_with (first | (refine wpList_load_view (t := 2) x A1 A2 c1 c2 w.heap.size ?hg ?hw ?hx ?_; (case hg => exact hv0.box); (case hw => rfl); (case hx => rfl)) | (go_at_call 16; refine (r15_Great x A1 A2 c1 c2 _).mono ?_; rintro e W1 ⟨he, hb1⟩; rw [hg] at he; subst he; have hv1 := hv0.below hb1; have hB1 := hB0.trans (hb1.mono hB0.size)) | (refine wpList_load_view (t := 2) x A1 A2 c1 c2 w.heap.size ?hg ?hw ?hx ?_; (case hg => exact hv1.box); (case hw => rfl); (case hx => rfl)) | (go_at_call 29; refine (r13_Right x A1 A2 c1 c2 _ hv1.rep.base hv1.rep.list).mono ?_; rintro e W2 ⟨he, hb2⟩; rw [hr] at he; subst he; have hv2 := hv1.below hb2; have hB2 := hB1.trans (hb2.mono hB1.size)) | (go_at_call 17; refine (law15_wakes _).mono ?_; rintro e W9 ⟨rfl, hb9⟩; have hB9 := hB2.trans (hb9.mono hB2.size)))
  go_ret
  exact ⟨rfl, hB9⟩

theorem law_RectBest (x : View) (A1 A2 : Option Addr) (c1 c2 : Nat) (A3 : Option Addr) (c3 : Nat) (l : List Int) (w : World) (h : greatV x = false → RepV w x A1 c1 A2 c2) (hs : decide (60 < (l.length : Int)) = false → Sl w A3 c3 l) :
    Calls Try.prog 4 #[x.v A1 c1 A2 c2, .slice A3 l.length c3] w fun e w' => e = .returned (.bool true) ∧ Below w.heap.size w w' := by
  cases hg : greatV x with
  | true => exact law_RectBest_great x A1 A2 c1 c2 A3 c3 l w hg
  | false =>
    cases hr : rightV x with
    | false => exact law_RectBest_bad x A1 A2 c1 c2 A3 c3 l w (h hg) hg hr
    | true =>
      cases hl : decide (60 < (l.length : Int)) with
      | true => exact law_RectBest_long x A1 A2 c1 c2 A3 c3 l w (h hg) hg hr hl
      | false => exact law_RectBest_main x A1 A2 c1 c2 A3 c3 l w (h hg) (hs hl) hg hr hl
end Go.Proofs.Ytbjgfcempfpfcaa
