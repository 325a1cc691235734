/- The law RectTells. -/
import Derived.Test.YtbjgfcempfpfcaaZ
import Derived.Test.YtbjgfcempfpfcaaBA
namespace Go.Proofs.Ytbjgfcempfpfcaa
open Go.RowKit Go.Shelf

set_option maxRecDepth 100000 in
set_option maxHeartbeats 8000000 in
theorem law_RectTells_main (x : View) (A1 A2 : Option Addr) (c1 c2 : Nat) (n : Int) (A3 : Option Addr) (c3 : Nat) (l : List Int) (w : World) (h : RepV w x A1 c1 A2 c2) (hs : Sl w A3 c3 l) (hg : greatV x = false) (hl : decide (60 < (l.length : Int)) = false) :
    Calls Try.prog 3 #[x.v A1 c1 A2 c2, .int .i64 n, .slice A3 l.length c3] w fun e w' => e = .returned (.bool true) ∧ Below w.heap.size w w' := by
  unfold View.v
  go_enter Try.func3, Try.ntmps3
  go_upto_region 1 with (fail)
  refine name_world fun W0 hW0 => ?_
  have hT := one_start hW0
  clear hW0
  have hv0 : Has w W0 w.heap.size x A1 c1 A2 c2 := ⟨hT.box, h.below hT.b⟩
  have hB0 := hT.b
  clear hT
  have hs0 := hs.below hB0
  go_upto_region 3 with (first | (refine wpList_load_view (t := 3) x A1 A2 c1 c2 w.heap.size ?hg ?hw ?hx ?_; (case hg => exact hv0.box); (case hw => rfl); (case hx => rfl)) | (go_at_call 16; refine (r15_Great x A1 A2 c1 c2 _).mono ?_; rintro e W1 ⟨he, hb1⟩; rw [hg] at he; subst he; have hv1 := hv0.below hb1; have hB1 := hB0.trans (hb1.mono hB0.size)))
  refine wp_region_lit ?_
  (refine wpList_load_view (t := 3) x A1 A2 c1 c2 w.heap.size ?hg ?hw ?hx ?_; (case hg => exact hv1.box); (case hw => rfl); (case hx => rfl))
  go_upto_region 4 with (go_at_call 18; refine (rect_Asks x A1 A2 c1 c2 _ hv1.rep).mono ?_; rintro e W2 ⟨rfl, hb2⟩; have hv2 := hv1.below hb2; have hB2 := hB1.trans (hb2.mono hB1.size))
  refine wp_region_lit ?_
  (refine wpList_load_view (t := 3) x A1 A2 c1 c2 w.heap.size ?hg ?hw ?hx ?_; (case hg => exact hv2.box); (case hw => rfl); (case hx => rfl))
  go_upto_region 5 with (go_at_call 19; refine (r15_Asks x A1 A2 c1 c2 _ hv2.rep).mono ?_; rintro e W3 ⟨rfl, hb3⟩; have hv3 := hv2.below hb3; have hB3 := hB2.trans (hb3.mono hB2.size))
  have hv := hv3
  have hs3 := hs.below hB3
  clear hv0 hB0 hs0 hb1 hv1 hB1 hb2 hv2 hB2 hv3 hb3 h hs
  refine wp_region_held_drew (S := (fun w' => Has w w' w.heap.size x A1 c1 A2 c2 ∧ Sl w' A3 c3 l ∧ Below w.heap.size w w')) (by kernel_rfl) ⟨hv.below ((Below.refl _ _).drew), hs3.below ((Below.refl _ _).drew), hB3.drew⟩ (fun hHeld => ?_)
  refine wpAnyH_take (i := 0) (oi := { dst := some 29, op := Op.load 25 (Operand.tmp 3), type := 25, pos := "law.go:35", after := #[], guard := none }) (v := .agg (x.cells A1 c1 A2 c2)) rfl (by kernel_rfl) (by kernel_rfl) (by kernel_rfl) (fun _ _ _ h => h) (yields_view (t := 3) x A1 A2 c1 c2 w.heap.size (by kernel_rfl) rfl (fun w h => h.1.box)) hHeld ?_
  simp only [Act.put, List.setIfInBounds_toArray, List.set_cons_zero, List.set_cons_succ]
  refine wpAnyH_take (i := 1) (oi := { dst := some 30, op := Op.move (Operand.tmp 1), type := 3, pos := "law.go:35", after := #[], guard := none }) (v := ?_) rfl (by kernel_rfl) (by kernel_rfl) (by kernel_rfl) (fun _ _ _ h => h) (Or.inl ⟨by kernel_rfl, ?_⟩) hHeld ?_
  rotate_left
  · intro w hSw; go_simp; try with_reducible rfl
  simp only [Act.put, List.setIfInBounds_toArray, List.set_cons_zero, List.set_cons_succ]
  refine wpAnyH_take (i := 3) (oi := { dst := some 32, op := Op.load 25 (Operand.tmp 3), type := 25, pos := "law.go:35", after := #[], guard := none }) (v := .agg (x.cells A1 c1 A2 c2)) rfl (by kernel_rfl) (by kernel_rfl) (by kernel_rfl) (fun _ _ _ h => h) (yields_view (t := 3) x A1 A2 c1 c2 w.heap.size (by kernel_rfl) rfl (fun w h => h.1.box)) hHeld ?_
  simp only [Act.put, List.setIfInBounds_toArray, List.set_cons_zero, List.set_cons_succ]
  refine wpAnyH_take (i := 4) (oi := { dst := some 33, op := Op.move (Operand.tmp 1), type := 3, pos := "law.go:35", after := #[], guard := none }) (v := ?_) rfl (by kernel_rfl) (by kernel_rfl) (by kernel_rfl) (fun _ _ _ h => h) (Or.inl ⟨by kernel_rfl, ?_⟩) hHeld ?_
  rotate_left
  · intro w hSw; go_simp; try with_reducible rfl
  simp only [Act.put, List.setIfInBounds_toArray, List.set_cons_zero, List.set_cons_succ]
  refine wpAnyH_ready (rs := [2]) (by kernel_rfl) (by simp) ?_
  refine AllReadyH.cons (o := { dst := some 31, op := Op.call { callee := Callee.value (Operand.func 20), args := #[Operand.tmp 29, Operand.tmp 30], argTypes := #[25, 3] }, type := 4, pos := "law.go:35", after := #[{ on := 0, ground := Ground.data }, { on := 1, ground := Ground.data }], guard := none }) rfl (fun K hK => ?_) AllReadyH.nil
  go_simp
  go_wp2_with (go_at_call 20; refine (rect_Better x A1 A2 c1 c2 _ hHeld.1.rep n).mono ?_; rintro e V ⟨rfl, hb⟩)
  refine hK.out _ _ ⟨hHeld.1.below hb, hHeld.2.1.below hb, hHeld.2.2.trans (hb.mono hHeld.2.2.size)⟩ (fun hHeld => ?_)
  clear hK K
  refine wpAnyH_ready (rs := [5]) (by kernel_rfl) (by simp) ?_
  refine AllReadyH.cons (o := { dst := some 34, op := Op.call { callee := Callee.value (Operand.func 21), args := #[Operand.tmp 32, Operand.tmp 33], argTypes := #[25, 3] }, type := 4, pos := "law.go:35", after := #[{ on := 3, ground := Ground.data }, { on := 4, ground := Ground.data }, { on := 2, ground := Ground.chain }], guard := none }) rfl (fun K hK => ?_) AllReadyH.nil
  go_simp
  go_wp2_with (go_at_call 21; refine (r15_Better x A1 A2 c1 c2 _ hHeld.1.rep n).mono ?_; rintro e V ⟨rfl, hb⟩)
  refine hK.out _ _ ⟨hHeld.1.below hb, hHeld.2.1.below hb, hHeld.2.2.trans (hb.mono hHeld.2.2.size)⟩ (fun hHeld => ?_)
  clear hK K
  refine wpAnyH_take (i := 6) (oi := { dst := some 35, op := Op.binOp BinOp.eql 4 (Operand.tmp 31) (Operand.tmp 34) 4, type := 4, pos := "law.go:35", after := #[{ on := 2, ground := Ground.data }, { on := 5, ground := Ground.data }], guard := none }) (v := .bool true) rfl (by kernel_rfl) (by kernel_rfl) (by kernel_rfl) (fun _ _ _ h => h) (Or.inl ⟨by kernel_rfl, ?_⟩) hHeld ?_
  · intro w hSw; go_simp; all_goals (first | rfl | simp)
  simp only [Act.put, List.setIfInBounds_toArray, List.set_cons_zero, List.set_cons_succ]
  refine wpAnyH_take (i := 7) (oi := { dst := some 36, op := Op.move (Operand.tmp 35), type := 4, pos := "law.go:35", after := #[{ on := 6, ground := Ground.data }, { on := 5, ground := Ground.chain }], guard := none }) (v := ?_) rfl (by kernel_rfl) (by kernel_rfl) (by kernel_rfl) (fun _ _ _ h => h) (Or.inl ⟨by kernel_rfl, ?_⟩) hHeld ?_
  rotate_left
  · intro w hSw; go_simp; try with_reducible rfl
  simp only [Act.put, List.setIfInBounds_toArray, List.set_cons_zero, List.set_cons_succ]
  refine wpAnyH_take (i := 8) (oi := { dst := some 37, op := Op.load 25 (Operand.tmp 3), type := 25, pos := "law.go:35", after := #[{ on := 7, ground := Ground.guard }], guard := some (7, true) }) (v := .agg (x.cells A1 c1 A2 c2)) rfl (by kernel_rfl) (by kernel_rfl) (by kernel_rfl) (fun _ _ _ h => h) (yields_view (t := 3) x A1 A2 c1 c2 w.heap.size (by kernel_rfl) rfl (fun w h => h.1.box)) hHeld ?_
  simp only [Act.put, List.setIfInBounds_toArray, List.set_cons_zero, List.set_cons_succ]
  refine wpAnyH_take (i := 9) (oi := { dst := some 38, op := Op.move (Operand.tmp 2), type := 22, pos := "law.go:35", after := #[{ on := 7, ground := Ground.guard }], guard := some (7, true) }) (v := ?_) rfl (by kernel_rfl) (by kernel_rfl) (by kernel_rfl) (fun _ _ _ h => h) (Or.inl ⟨by kernel_rfl, ?_⟩) hHeld ?_
  rotate_left
  · intro w hSw; go_simp; try with_reducible rfl
  simp only [Act.put, List.setIfInBounds_toArray, List.set_cons_zero, List.set_cons_succ]
  refine wpAnyH_take (i := 11) (oi := { dst := some 40, op := Op.load 25 (Operand.tmp 3), type := 25, pos := "law.go:35", after := #[{ on := 7, ground := Ground.guard }], guard := some (7, true) }) (v := .agg (x.cells A1 c1 A2 c2)) rfl (by kernel_rfl) (by kernel_rfl) (by kernel_rfl) (fun _ _ _ h => h) (yields_view (t := 3) x A1 A2 c1 c2 w.heap.size (by kernel_rfl) rfl (fun w h => h.1.box)) hHeld ?_
  simp only [Act.put, List.setIfInBounds_toArray, List.set_cons_zero, List.set_cons_succ]
  refine wpAnyH_take (i := 12) (oi := { dst := some 41, op := Op.move (Operand.tmp 2), type := 22, pos := "law.go:35", after := #[{ on := 7, ground := Ground.guard }], guard := some (7, true) }) (v := ?_) rfl (by kernel_rfl) (by kernel_rfl) (by kernel_rfl) (fun _ _ _ h => h) (Or.inl ⟨by kernel_rfl, ?_⟩) hHeld ?_
  rotate_left
  · intro w hSw; go_simp; try with_reducible rfl
  simp only [Act.put, List.setIfInBounds_toArray, List.set_cons_zero, List.set_cons_succ]
  refine wpAnyH_ready (rs := [10]) (by kernel_rfl) (by simp) ?_
  refine AllReadyH.cons (o := { dst := some 39, op := Op.call { callee := Callee.value (Operand.func 23), args := #[Operand.tmp 37, Operand.tmp 38], argTypes := #[25, 22] }, type := 25, pos := "law.go:35", after := #[{ on := 8, ground := Ground.data }, { on := 9, ground := Ground.data }, { on := 7, ground := Ground.chain }, { on := 7, ground := Ground.guard }], guard := some (7, true) }) rfl (fun K hK => ?_) AllReadyH.nil
  go_simp
  go_wp2_with (go_at_call 23; refine (rect_Notify x A1 A2 c1 c2 _ hHeld.1.rep _ _ l hHeld.2.1).mono ?_; rintro e V ⟨E1, d1, E2, d2, rfl, hr, hb, -, -⟩)
  refine hK.out _ _ ⟨hHeld.1.below hb, hHeld.2.1.below hb, hHeld.2.2.trans (hb.mono hHeld.2.2.size)⟩ (fun hHeld => ?_)
  clear hK K
  refine wpAnyH_ready (rs := [13]) (by kernel_rfl) (by simp) ?_
  refine AllReadyH.cons (o := { dst := some 42, op := Op.call { callee := Callee.value (Operand.func 24), args := #[Operand.tmp 40, Operand.tmp 41], argTypes := #[25, 22] }, type := 25, pos := "law.go:35", after := #[{ on := 11, ground := Ground.data }, { on := 12, ground := Ground.data }, { on := 10, ground := Ground.chain }, { on := 7, ground := Ground.guard }], guard := some (7, true) }) rfl (fun K hK => ?_) AllReadyH.nil
  go_simp
  go_wp2_with (go_at_call 24; refine (r15_Notify x A1 A2 c1 c2 _ hHeld.1.rep _ _ l hHeld.2.1).mono ?_; rintro e V ⟨F1, f1, F2, f2, rfl, hr2, hb, -, -⟩; have hr1 := hr.below hb)
  refine hK.out _ _ ⟨hHeld.1.below hb, hHeld.2.1.below hb, hHeld.2.2.trans (hb.mono hHeld.2.2.size)⟩ (fun hHeld => ?_)
  clear hK K
  refine wpAnyH_ready (rs := [14]) (by kernel_rfl) (by simp) ?_
  refine AllReadyH.cons (o := { dst := some 43, op := Op.call { callee := Callee.value (Operand.func 22), args := #[Operand.tmp 39, Operand.tmp 42], argTypes := #[25, 25] }, type := 4, pos := "law.go:35", after := #[{ on := 10, ground := Ground.data }, { on := 13, ground := Ground.data }, { on := 13, ground := Ground.chain }, { on := 7, ground := Ground.guard }], guard := some (7, true) }) rfl (fun K hK => ?_) AllReadyH.nil
  go_simp
  go_wp2_with (go_at_call 22; refine (r13_Same _ _ E1 E2 F1 F2 d1 d2 f1 f2 _ hr1 hr2).mono ?_; rintro e V ⟨he, hb⟩; rw [same_refl] at he; subst he)
  refine hK.out _ _ ⟨hHeld.1.below hb, hHeld.2.1.below hb, hHeld.2.2.trans (hb.mono hHeld.2.2.size)⟩ (fun hHeld => ?_)
  clear hK K
  refine wpAnyH_take (i := 15) (oi := { dst := some 44, op := Op.pick (Operand.tmp 36) (Operand.tmp 43) (Operand.const (Value.bool false)), type := 4, pos := "law.go:35", after := #[{ on := 7, ground := Ground.data }, { on := 14, ground := Ground.data }], guard := none }) (v := ?_) rfl (by kernel_rfl) (by kernel_rfl) (by kernel_rfl) (fun _ _ _ h => h) (Or.inl ⟨by kernel_rfl, ?_⟩) hHeld ?_
  rotate_left
  · intro w hSw; go_simp; try with_reducible rfl
  simp only [Act.put, List.setIfInBounds_toArray, List.set_cons_zero, List.set_cons_succ]
  refine wpAnyH_take (i := 16) (oi := { dst := some 45, op := Op.move (Operand.tmp 44), type := 4, pos := "law.go:35", after := #[{ on := 15, ground := Ground.data }, { on := 14, ground := Ground.chain }], guard := none }) (v := ?_) rfl (by kernel_rfl) (by kernel_rfl) (by kernel_rfl) (fun _ _ _ h => h) (Or.inl ⟨by kernel_rfl, ?_⟩) hHeld ?_
  rotate_left
  · intro w hSw; go_simp; try with_reducible rfl
  simp only [Act.put, List.setIfInBounds_toArray, List.set_cons_zero, List.set_cons_succ]
  refine wpAnyH_take (i := 17) (oi := { dst := some 46, op := Op.load 25 (Operand.tmp 3), type := 25, pos := "law.go:35", after := #[{ on := 16, ground := Ground.guard }], guard := some (16, true) }) (v := .agg (x.cells A1 c1 A2 c2)) rfl (by kernel_rfl) (by kernel_rfl) (by kernel_rfl) (fun _ _ _ h => h) (yields_view (t := 3) x A1 A2 c1 c2 w.heap.size (by kernel_rfl) rfl (fun w h => h.1.box)) hHeld ?_
  simp only [Act.put, List.setIfInBounds_toArray, List.set_cons_zero, List.set_cons_succ]
  refine wpAnyH_take (i := 18) (oi := { dst := some 47, op := Op.move (Operand.tmp 1), type := 3, pos := "law.go:35", after := #[{ on := 16, ground := Ground.guard }], guard := some (16, true) }) (v := ?_) rfl (by kernel_rfl) (by kernel_rfl) (by kernel_rfl) (fun _ _ _ h => h) (Or.inl ⟨by kernel_rfl, ?_⟩) hHeld ?_
  rotate_left
  · intro w hSw; go_simp; try with_reducible rfl
  simp only [Act.put, List.setIfInBounds_toArray, List.set_cons_zero, List.set_cons_succ]
  refine wpAnyH_take (i := 20) (oi := { dst := some 49, op := Op.load 25 (Operand.tmp 3), type := 25, pos := "law.go:35", after := #[{ on := 16, ground := Ground.guard }], guard := some (16, true) }) (v := .agg (x.cells A1 c1 A2 c2)) rfl (by kernel_rfl) (by kernel_rfl) (by kernel_rfl) (fun _ _ _ h => h) (yields_view (t := 3) x A1 A2 c1 c2 w.heap.size (by kernel_rfl) rfl (fun w h => h.1.box)) hHeld ?_
  simp only [Act.put, List.setIfInBounds_toArray, List.set_cons_zero, List.set_cons_succ]
  refine wpAnyH_take (i := 21) (oi := { dst := some 50, op := Op.move (Operand.tmp 1), type := 3, pos := "law.go:35", after := #[{ on := 16, ground := Ground.guard }], guard := some (16, true) }) (v := ?_) rfl (by kernel_rfl) (by kernel_rfl) (by kernel_rfl) (fun _ _ _ h => h) (Or.inl ⟨by kernel_rfl, ?_⟩) hHeld ?_
  rotate_left
  · intro w hSw; go_simp; try with_reducible rfl
  simp only [Act.put, List.setIfInBounds_toArray, List.set_cons_zero, List.set_cons_succ]
  refine wpAnyH_ready (rs := [19]) (by kernel_rfl) (by simp) ?_
  refine AllReadyH.cons (o := { dst := some 48, op := Op.call { callee := Callee.value (Operand.func 25), args := #[Operand.tmp 46, Operand.tmp 47], argTypes := #[25, 3] }, type := 4, pos := "law.go:35", after := #[{ on := 17, ground := Ground.data }, { on := 18, ground := Ground.data }, { on := 16, ground := Ground.chain }, { on := 16, ground := Ground.guard }], guard := some (16, true) }) rfl (fun K hK => ?_) AllReadyH.nil
  go_simp
  go_wp2_with (go_at_call 25; refine (rect_Owns x A1 A2 c1 c2 _ hHeld.1.rep n).mono ?_; rintro e V ⟨rfl, hb⟩)
  refine hK.out _ _ ⟨hHeld.1.below hb, hHeld.2.1.below hb, hHeld.2.2.trans (hb.mono hHeld.2.2.size)⟩ (fun hHeld => ?_)
  clear hK K
  refine wpAnyH_ready (rs := [22]) (by kernel_rfl) (by simp) ?_
  refine AllReadyH.cons (o := { dst := some 51, op := Op.call { callee := Callee.value (Operand.func 26), args := #[Operand.tmp 49, Operand.tmp 50], argTypes := #[25, 3] }, type := 4, pos := "law.go:35", after := #[{ on := 20, ground := Ground.data }, { on := 21, ground := Ground.data }, { on := 19, ground := Ground.chain }, { on := 16, ground := Ground.guard }], guard := some (16, true) }) rfl (fun K hK => ?_) AllReadyH.nil
  go_simp
  go_wp2_with (go_at_call 26; refine (r15_Owns x A1 A2 c1 c2 _ hHeld.1.rep n).mono ?_; rintro e V ⟨rfl, hb⟩)
  refine hK.out _ _ ⟨hHeld.1.below hb, hHeld.2.1.below hb, hHeld.2.2.trans (hb.mono hHeld.2.2.size)⟩ (fun hHeld => ?_)
  clear hK K
  refine wpAnyH_take (i := 23) (oi := { dst := some 52, op := Op.binOp BinOp.eql 4 (Operand.tmp 48) (Operand.tmp 51) 4, type := 4, pos := "law.go:35", after := #[{ on := 19, ground := Ground.data }, { on := 22, ground := Ground.data }, { on := 16, ground := Ground.guard }], guard := some (16, true) }) (v := .bool true) rfl (by kernel_rfl) (by kernel_rfl) (by kernel_rfl) (fun _ _ _ h => h) (Or.inl ⟨by kernel_rfl, ?_⟩) hHeld ?_
  · intro w hSw; go_simp; all_goals (first | rfl | simp)
  simp only [Act.put, List.setIfInBounds_toArray, List.set_cons_zero, List.set_cons_succ]
  refine wpAnyH_take (i := 24) (oi := { dst := some 53, op := Op.pick (Operand.tmp 45) (Operand.tmp 52) (Operand.const (Value.bool false)), type := 4, pos := "law.go:35", after := #[{ on := 16, ground := Ground.data }, { on := 23, ground := Ground.data }], guard := none }) (v := ?_) rfl (by kernel_rfl) (by kernel_rfl) (by kernel_rfl) (fun _ _ _ h => h) (Or.inl ⟨by kernel_rfl, ?_⟩) hHeld ?_
  rotate_left
  · intro w hSw; go_simp; try with_reducible rfl
  simp only [Act.put, List.setIfInBounds_toArray, List.set_cons_zero, List.set_cons_succ]
  refine wpAnyH_take (i := 25) (oi := { dst := some 54, op := Op.move (Operand.tmp 53), type := 4, pos := "law.go:35", after := #[{ on := 24, ground := Ground.data }, { on := 22, ground := Ground.chain }], guard := none }) (v := ?_) rfl (by kernel_rfl) (by kernel_rfl) (by kernel_rfl) (fun _ _ _ h => h) (Or.inl ⟨by kernel_rfl, ?_⟩) hHeld ?_
  rotate_left
  · intro w hSw; go_simp; try with_reducible rfl
  simp only [Act.put, List.setIfInBounds_toArray, List.set_cons_zero, List.set_cons_succ]
  refine wpAnyH_take (i := 26) (oi := { dst := some 55, op := Op.move (Operand.tmp 7), type := 3, pos := "law.go:35", after := #[{ on := 25, ground := Ground.guard }], guard := some (25, true) }) (v := ?_) rfl (by kernel_rfl) (by kernel_rfl) (by kernel_rfl) (fun _ _ _ h => h) (Or.inl ⟨by kernel_rfl, ?_⟩) hHeld ?_
  rotate_left
  · intro w hSw; go_simp; try with_reducible rfl
  simp only [Act.put, List.setIfInBounds_toArray, List.set_cons_zero, List.set_cons_succ]
  refine wpAnyH_take (i := 27) (oi := { dst := some 56, op := Op.move (Operand.tmp 9), type := 3, pos := "law.go:35", after := #[{ on := 25, ground := Ground.guard }], guard := some (25, true) }) (v := ?_) rfl (by kernel_rfl) (by kernel_rfl) (by kernel_rfl) (fun _ _ _ h => h) (Or.inl ⟨by kernel_rfl, ?_⟩) hHeld ?_
  rotate_left
  · intro w hSw; go_simp; try with_reducible rfl
  simp only [Act.put, List.setIfInBounds_toArray, List.set_cons_zero, List.set_cons_succ]
  refine wpAnyH_take (i := 28) (oi := { dst := some 57, op := Op.binOp BinOp.eql 3 (Operand.tmp 55) (Operand.tmp 56) 3, type := 4, pos := "law.go:35", after := #[{ on := 26, ground := Ground.data }, { on := 27, ground := Ground.data }, { on := 25, ground := Ground.guard }], guard := some (25, true) }) (v := .bool true) rfl (by kernel_rfl) (by kernel_rfl) (by kernel_rfl) (fun _ _ _ h => h) (Or.inl ⟨by kernel_rfl, ?_⟩) hHeld ?_
  · intro w hSw; go_simp; all_goals (first | rfl | simp)
  simp only [Act.put, List.setIfInBounds_toArray, List.set_cons_zero, List.set_cons_succ]
  refine wpAnyH_take (i := 29) (oi := { dst := some 58, op := Op.pick (Operand.tmp 54) (Operand.tmp 57) (Operand.const (Value.bool false)), type := 4, pos := "law.go:35", after := #[{ on := 25, ground := Ground.data }, { on := 28, ground := Ground.data }], guard := none }) (v := ?_) rfl (by kernel_rfl) (by kernel_rfl) (by kernel_rfl) (fun _ _ _ h => h) (Or.inl ⟨by kernel_rfl, ?_⟩) hHeld ?_
  rotate_left
  · intro w hSw; go_simp; try with_reducible rfl
  simp only [Act.put, List.setIfInBounds_toArray, List.set_cons_zero, List.set_cons_succ]
  refine wpAnyH_take (i := 30) (oi := { dst := some 59, op := Op.move (Operand.tmp 58), type := 4, pos := "law.go:35", after := #[{ on := 29, ground := Ground.data }, { on := 25, ground := Ground.chain }], guard := none }) (v := ?_) rfl (by kernel_rfl) (by kernel_rfl) (by kernel_rfl) (fun _ _ _ h => h) (Or.inl ⟨by kernel_rfl, ?_⟩) hHeld ?_
  rotate_left
  · intro w hSw; go_simp; try with_reducible rfl
  simp only [Act.put, List.setIfInBounds_toArray, List.set_cons_zero, List.set_cons_succ]
  refine wpAnyH_take (i := 31) (oi := { dst := some 60, op := Op.move (Operand.tmp 8), type := 4, pos := "law.go:35", after := #[{ on := 30, ground := Ground.guard }], guard := some (30, true) }) (v := ?_) rfl (by kernel_rfl) (by kernel_rfl) (by kernel_rfl) (fun _ _ _ h => h) (Or.inl ⟨by kernel_rfl, ?_⟩) hHeld ?_
  rotate_left
  · intro w hSw; go_simp; try with_reducible rfl
  simp only [Act.put, List.setIfInBounds_toArray, List.set_cons_zero, List.set_cons_succ]
  refine wpAnyH_take (i := 32) (oi := { dst := some 61, op := Op.move (Operand.tmp 10), type := 4, pos := "law.go:35", after := #[{ on := 30, ground := Ground.guard }], guard := some (30, true) }) (v := ?_) rfl (by kernel_rfl) (by kernel_rfl) (by kernel_rfl) (fun _ _ _ h => h) (Or.inl ⟨by kernel_rfl, ?_⟩) hHeld ?_
  rotate_left
  · intro w hSw; go_simp; try with_reducible rfl
  simp only [Act.put, List.setIfInBounds_toArray, List.set_cons_zero, List.set_cons_succ]
  refine wpAnyH_take (i := 33) (oi := { dst := some 62, op := Op.binOp BinOp.eql 4 (Operand.tmp 60) (Operand.tmp 61) 4, type := 4, pos := "law.go:35", after := #[{ on := 31, ground := Ground.data }, { on := 32, ground := Ground.data }, { on := 30, ground := Ground.guard }], guard := some (30, true) }) (v := .bool true) rfl (by kernel_rfl) (by kernel_rfl) (by kernel_rfl) (fun _ _ _ h => h) (Or.inl ⟨by kernel_rfl, ?_⟩) hHeld ?_
  · intro w hSw; go_simp; all_goals (first | rfl | simp)
  simp only [Act.put, List.setIfInBounds_toArray, List.set_cons_zero, List.set_cons_succ]
  refine wpAnyH_take (i := 34) (oi := { dst := some 63, op := Op.pick (Operand.tmp 59) (Operand.tmp 62) (Operand.const (Value.bool false)), type := 4, pos := "law.go:35", after := #[{ on := 30, ground := Ground.data }, { on := 33, ground := Ground.data }], guard := none }) (v := ?_) rfl (by kernel_rfl) (by kernel_rfl) (by kernel_rfl) (fun _ _ _ h => h) (Or.inl ⟨by kernel_rfl, ?_⟩) hHeld ?_
  rotate_left
  · intro w hSw; go_simp; try with_reducible rfl
  simp only [Act.put, List.setIfInBounds_toArray, List.set_cons_zero, List.set_cons_succ]
  refine wpAnyH_take (i := 35) (oi := { dst := some 64, op := Op.move (Operand.tmp 63), type := 4, pos := "law.go:35", after := #[{ on := 34, ground := Ground.data }, { on := 30, ground := Ground.chain }], guard := none }) (v := ?_) rfl (by kernel_rfl) (by kernel_rfl) (by kernel_rfl) (fun _ _ _ h => h) (Or.inl ⟨by kernel_rfl, ?_⟩) hHeld ?_
  rotate_left
  · intro w hSw; go_simp; try with_reducible rfl
  simp only [Act.put, List.setIfInBounds_toArray, List.set_cons_zero, List.set_cons_succ]
  refine wpAnyH_take (i := 36) (oi := { dst := some 65, op := Op.load 25 (Operand.tmp 3), type := 25, pos := "law.go:35", after := #[{ on := 35, ground := Ground.guard }], guard := some (35, true) }) (v := .agg (x.cells A1 c1 A2 c2)) rfl (by kernel_rfl) (by kernel_rfl) (by kernel_rfl) (fun _ _ _ h => h) (yields_view (t := 3) x A1 A2 c1 c2 w.heap.size (by kernel_rfl) rfl (fun w h => h.1.box)) hHeld ?_
  simp only [Act.put, List.setIfInBounds_toArray, List.set_cons_zero, List.set_cons_succ]
  refine wpAnyH_take (i := 37) (oi := { dst := some 66, op := Op.move (Operand.tmp 1), type := 3, pos := "law.go:35", after := #[{ on := 35, ground := Ground.guard }], guard := some (35, true) }) (v := ?_) rfl (by kernel_rfl) (by kernel_rfl) (by kernel_rfl) (fun _ _ _ h => h) (Or.inl ⟨by kernel_rfl, ?_⟩) hHeld ?_
  rotate_left
  · intro w hSw; go_simp; try with_reducible rfl
  simp only [Act.put, List.setIfInBounds_toArray, List.set_cons_zero, List.set_cons_succ]
  refine wpAnyH_take (i := 39) (oi := { dst := some 68, op := Op.load 25 (Operand.tmp 3), type := 25, pos := "law.go:35", after := #[{ on := 35, ground := Ground.guard }], guard := some (35, true) }) (v := .agg (x.cells A1 c1 A2 c2)) rfl (by kernel_rfl) (by kernel_rfl) (by kernel_rfl) (fun _ _ _ h => h) (yields_view (t := 3) x A1 A2 c1 c2 w.heap.size (by kernel_rfl) rfl (fun w h => h.1.box)) hHeld ?_
  simp only [Act.put, List.setIfInBounds_toArray, List.set_cons_zero, List.set_cons_succ]
  refine wpAnyH_take (i := 40) (oi := { dst := some 69, op := Op.move (Operand.tmp 1), type := 3, pos := "law.go:35", after := #[{ on := 35, ground := Ground.guard }], guard := some (35, true) }) (v := ?_) rfl (by kernel_rfl) (by kernel_rfl) (by kernel_rfl) (fun _ _ _ h => h) (Or.inl ⟨by kernel_rfl, ?_⟩) hHeld ?_
  rotate_left
  · intro w hSw; go_simp; try with_reducible rfl
  simp only [Act.put, List.setIfInBounds_toArray, List.set_cons_zero, List.set_cons_succ]
  refine wpAnyH_ready (rs := [38]) (by kernel_rfl) (by simp) ?_
  refine AllReadyH.cons (o := { dst := some 67, op := Op.call { callee := Callee.value (Operand.func 27), args := #[Operand.tmp 65, Operand.tmp 66], argTypes := #[25, 3] }, type := 25, pos := "law.go:35", after := #[{ on := 36, ground := Ground.data }, { on := 37, ground := Ground.data }, { on := 35, ground := Ground.chain }, { on := 35, ground := Ground.guard }], guard := some (35, true) }) rfl (fun K hK => ?_) AllReadyH.nil
  go_simp
  go_wp2_with (go_at_call 27; refine (rect_Gone x A1 A2 c1 c2 _ hHeld.1.rep n).mono ?_; rintro e V ⟨G1, g1, G2, g2, rfl, kr, hb, -, -⟩)
  refine hK.out _ _ ⟨hHeld.1.below hb, hHeld.2.1.below hb, hHeld.2.2.trans (hb.mono hHeld.2.2.size)⟩ (fun hHeld => ?_)
  clear hK K
  refine wpAnyH_ready (rs := [41]) (by kernel_rfl) (by simp) ?_
  refine AllReadyH.cons (o := { dst := some 70, op := Op.call { callee := Callee.value (Operand.func 28), args := #[Operand.tmp 68, Operand.tmp 69], argTypes := #[25, 3] }, type := 25, pos := "law.go:35", after := #[{ on := 39, ground := Ground.data }, { on := 40, ground := Ground.data }, { on := 38, ground := Ground.chain }, { on := 35, ground := Ground.guard }], guard := some (35, true) }) rfl (fun K hK => ?_) AllReadyH.nil
  go_simp
  go_wp2_with (go_at_call 28; refine (r15_Gone x A1 A2 c1 c2 _ hHeld.1.rep n).mono ?_; rintro e V ⟨H1, h1, H2, h2, rfl, kr2, hb, -, -⟩; have kr1 := kr.below hb)
  refine hK.out _ _ ⟨hHeld.1.below hb, hHeld.2.1.below hb, hHeld.2.2.trans (hb.mono hHeld.2.2.size)⟩ (fun hHeld => ?_)
  clear hK K
  refine wpAnyH_ready (rs := [42]) (by kernel_rfl) (by simp) ?_
  refine AllReadyH.cons (o := { dst := some 71, op := Op.call { callee := Callee.value (Operand.func 22), args := #[Operand.tmp 67, Operand.tmp 70], argTypes := #[25, 25] }, type := 4, pos := "law.go:35", after := #[{ on := 38, ground := Ground.data }, { on := 41, ground := Ground.data }, { on := 41, ground := Ground.chain }, { on := 35, ground := Ground.guard }], guard := some (35, true) }) rfl (fun K hK => ?_) AllReadyH.nil
  go_simp
  go_wp2_with (go_at_call 22; refine (r13_Same _ _ G1 G2 H1 H2 g1 g2 h1 h2 _ kr1 kr2).mono ?_; rintro e V ⟨he, hb⟩; rw [same_refl] at he; subst he)
  refine hK.out _ _ ⟨hHeld.1.below hb, hHeld.2.1.below hb, hHeld.2.2.trans (hb.mono hHeld.2.2.size)⟩ (fun hHeld => ?_)
  clear hK K
  refine wpAnyH_take (i := 43) (oi := { dst := some 72, op := Op.pick (Operand.tmp 64) (Operand.tmp 71) (Operand.const (Value.bool false)), type := 4, pos := "law.go:35", after := #[{ on := 35, ground := Ground.data }, { on := 42, ground := Ground.data }], guard := none }) (v := ?_) rfl (by kernel_rfl) (by kernel_rfl) (by kernel_rfl) (fun _ _ _ h => h) (Or.inl ⟨by kernel_rfl, ?_⟩) hHeld ?_
  rotate_left
  · intro w hSw; go_simp; try with_reducible rfl
  simp only [Act.put, List.setIfInBounds_toArray, List.set_cons_zero, List.set_cons_succ]
  refine wpAnyH_take (i := 44) (oi := { dst := some 73, op := Op.move (Operand.tmp 72), type := 4, pos := "law.go:35", after := #[{ on := 43, ground := Ground.data }, { on := 42, ground := Ground.chain }], guard := none }) (v := ?_) rfl (by kernel_rfl) (by kernel_rfl) (by kernel_rfl) (fun _ _ _ h => h) (Or.inl ⟨by kernel_rfl, ?_⟩) hHeld ?_
  rotate_left
  · intro w hSw; go_simp; try with_reducible rfl
  simp only [Act.put, List.setIfInBounds_toArray, List.set_cons_zero, List.set_cons_succ]
  refine wpAnyH_ready (rs := [45]) (by kernel_rfl) (by simp) ?_
  refine AllReadyH.cons (o := { dst := some 74, op := Op.call { callee := Callee.value (Operand.func 17), args := #[], argTypes := #[] }, type := 4, pos := "law.go:35", after := #[{ on := 44, ground := Ground.chain }, { on := 44, ground := Ground.guard }], guard := some (44, true) }) rfl (fun K hK => ?_) AllReadyH.nil
  go_simp
  go_wp2_with (go_at_call 17; refine (law15_wakes _).mono ?_; rintro e V ⟨rfl, hb⟩)
  refine hK.out _ _ ⟨hHeld.1.below hb, hHeld.2.1.below hb, hHeld.2.2.trans (hb.mono hHeld.2.2.size)⟩ (fun hHeld => ?_)
  clear hK K
  refine wpAnyH_take (i := 46) (oi := { dst := some 75, op := Op.pick (Operand.tmp 73) (Operand.tmp 74) (Operand.const (Value.bool false)), type := 4, pos := "law.go:35", after := #[{ on := 44, ground := Ground.data }, { on := 45, ground := Ground.data }], guard := none }) (v := ?_) rfl (by kernel_rfl) (by kernel_rfl) (by kernel_rfl) (fun _ _ _ h => h) (Or.inl ⟨by kernel_rfl, ?_⟩) hHeld ?_
  rotate_left
  · intro w hSw; go_simp; try with_reducible rfl
  simp only [Act.put, List.setIfInBounds_toArray, List.set_cons_zero, List.set_cons_succ]
  refine wpAnyH_take (i := 47) (oi := { dst := some 6, op := Op.assign (Operand.tmp 75), type := 4, pos := "law.go:35", after := #[{ on := 46, ground := Ground.data }, { on := 45, ground := Ground.chain }, { on := 0, ground := Ground.phase }, { on := 1, ground := Ground.phase }, { on := 2, ground := Ground.phase }, { on := 3, ground := Ground.phase }, { on := 4, ground := Ground.phase }, { on := 5, ground := Ground.phase }, { on := 6, ground := Ground.phase }, { on := 7, ground := Ground.phase }, { on := 8, ground := Ground.phase }, { on := 9, ground := Ground.phase }, { on := 10, ground := Ground.phase }, { on := 11, ground := Ground.phase }, { on := 12, ground := Ground.phase }, { on := 13, ground := Ground.phase }, { on := 14, ground := Ground.phase }, { on := 15, ground := Ground.phase }, { on := 16, ground := Ground.phase }, { on := 17, ground := Ground.phase }, { on := 18, ground := Ground.phase }, { on := 19, ground := Ground.phase }, { on := 20, ground := Ground.phase }, { on := 21, ground := Ground.phase }, { on := 22, ground := Ground.phase }, { on := 23, ground := Ground.phase }, { on := 24, ground := Ground.phase }, { on := 25, ground := Ground.phase }, { on := 26, ground := Ground.phase }, { on := 27, ground := Ground.phase }, { on := 28, ground := Ground.phase }, { on := 29, ground := Ground.phase }, { on := 30, ground := Ground.phase }, { on := 31, ground := Ground.phase }, { on := 32, ground := Ground.phase }, { on := 33, ground := Ground.phase }, { on := 34, ground := Ground.phase }, { on := 35, ground := Ground.phase }, { on := 36, ground := Ground.phase }, { on := 37, ground := Ground.phase }, { on := 38, ground := Ground.phase }, { on := 39, ground := Ground.phase }, { on := 40, ground := Ground.phase }, { on := 41, ground := Ground.phase }, { on := 42, ground := Ground.phase }, { on := 43, ground := Ground.phase }, { on := 44, ground := Ground.phase }, { on := 45, ground := Ground.phase }, { on := 46, ground := Ground.phase }], guard := none }) (v := ?_) rfl (by kernel_rfl) (by kernel_rfl) (by kernel_rfl) (fun _ _ _ h => h) (Or.inl ⟨by kernel_rfl, ?_⟩) hHeld ?_
  rotate_left
  · intro w hSw; go_simp; try with_reducible rfl
  simp only [Act.put, List.setIfInBounds_toArray, List.set_cons_zero, List.set_cons_succ]
  refine wpAnyH_done (by kernel_rfl) ?_ _
  go_wp2
  go_ret
  exact ⟨rfl, hHeld.2.2⟩

set_option maxRecDepth 100000 in
set_option maxHeartbeats 1000000 in
theorem law_RectTells_great (x : View) (A1 A2 : Option Addr) (c1 c2 : Nat) (n : Int) (A3 : Option Addr) (c3 : Nat) (l : List Int) (w : World) (hg : greatV x = true) :
    Calls Try.prog 3 #[x.v A1 c1 A2 c2, .int .i64 n, .slice A3 l.length c3] w fun e w' => e = .returned (.bool true) ∧ Below w.heap.size w w' := by
  unfold View.v
  go_enter Try.func3, Try.ntmps3
  go_upto_region 1 with (fail)
  refine name_world fun W0 hW0 => ?_
  have hT := one_start hW0
  clear hW0
  have hv0 := hT
  have hB0 := hT.b
  clear hT
  go_wp2_with (first | (refine wpList_load_view (t := 3) x A1 A2 c1 c2 w.heap.size ?hg ?hw ?hx ?_; (case hg => exact hv0.box); (case hw => rfl); (case hx => rfl)) | (go_at_call 16; refine (r15_Great x A1 A2 c1 c2 _).mono ?_; rintro e W1 ⟨he, hb1⟩; rw [hg] at he; subst he; have hv1 := hv0.below hb1; have hB1 := hB0.trans (hb1.mono hB0.size)) | (go_at_call 17; refine (law15_wakes _).mono ?_; rintro e W9 ⟨rfl, hb9⟩; have hB9 := hB1.trans (hb9.mono hB1.size)))
  go_ret
  exact ⟨rfl, hB9⟩

set_option maxRecDepth 100000 in
set_option maxHeartbeats 1000000 in
theorem law_RectTells_long (x : View) (A1 A2 : Option Addr) (c1 c2 : Nat) (n : Int) (A3 : Option Addr) (c3 : Nat) (l : List Int) (w : World) (h : RepV w x A1 c1 A2 c2) (hg : greatV x = false) (hl : decide (60 < (l.length : Int)) = true) :
    Calls Try.prog 3 #[x.v A1 c1 A2 c2, .int .i64 n, .slice A3 l.length c3] w fun e w' => e = .returned (.bool true) ∧ Below w.heap.size w w' := by
  unfold View.v
  go_enter Try.func3, Try.ntmps3
  go_upto_region 1 with (fail)
  refine name_world fun W0 hW0 => ?_
  have hT := one_start hW0
  clear hW0
  have hv0 : Has w W0 w.heap.size x A1 c1 A2 c2 := ⟨hT.box, h.below hT.b⟩
  have hB0 := hT.b
  clear hT
  go_wp2_with (first | (refine wpList_load_view (t := 3) x A1 A2 c1 c2 w.heap.size ?hg ?hw ?hx ?_; (case hg => exact hv0.box); (case hw => rfl); (case hx => rfl)) | (go_at_call 16; refine (r15_Great x A1 A2 c1 c2 _).mono ?_; rintro e W1 ⟨he, hb1⟩; rw [hg] at he; subst he; have hv1 := hv0.below hb1; have hB1 := hB0.trans (hb1.mono hB0.size)) | (go_at_call 17; refine (law15_wakes _).mono ?_; rintro e W9 ⟨rfl, hb9⟩; have hB9 := hB1.trans (hb9.mono hB1.size)))
  go_ret
  exact ⟨rfl, hB9⟩

theorem law_RectTells (x : View) (A1 A2 : Option Addr) (c1 c2 : Nat) (n : Int) (A3 : Option Addr) (c3 : Nat) (l : List Int) (w : World) (h : greatV x = false → RepV w x A1 c1 A2 c2) (hs : decide (60 < (l.length : Int)) = false → Sl w A3 c3 l) :
    Calls Try.prog 3 #[x.v A1 c1 A2 c2, .int .i64 n, .slice A3 l.length c3] w fun e w' => e = .returned (.bool true) ∧ Below w.heap.size w w' := by
  cases hg : greatV x with
  | true => exact law_RectTells_great x A1 A2 c1 c2 n A3 c3 l w hg
  | false =>
    cases hl : decide (60 < (l.length : Int)) with
    | true => exact law_RectTells_long x A1 A2 c1 c2 n A3 c3 l w (h hg) hg hl
    | false => exact law_RectTells_main x A1 A2 c1 c2 n A3 c3 l w (h hg) (hs hl) hg hl
end Go.Proofs.Ytbjgfcempfpfcaa
