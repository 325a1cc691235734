/- Contract: garlandlaw19.wakes. -/
import Derived.Test.YtbjgfcempfpfcaaDJ
import Derived.Test.YtbjgfcempfpfcaaDM
namespace Go.Proofs.Ytbjgfcempfpfcaa
open Go.RowKit Go.Shelf

def iA : It := ⟨⟨#[107]⟩, 1, 2, false⟩
def iB : It := ⟨⟨#[107]⟩, 9, 1, false⟩
def iG : It := ⟨⟨#[107]⟩, 0, 3, true⟩
def iX : It := ⟨⟨#[98]⟩, 0, 0, false⟩
def iY : It := ⟨⟨#[120]⟩, 0, 0, false⟩
theorem new_two : newestP [It.zero, iB, iA] = (iA, true) := by kernel_rfl
theorem new_zero : newestP [It.zero] = (It.zero, false) := by kernel_rfl
theorem gone_A : goneOf iA = iG := by kernel_rfl
theorem cmp_AB : cmpI iA iB = 1 := by kernel_rfl
theorem cmp_BA : cmpI iB iA = -1 := by kernel_rfl
theorem newer_AB : newerI iA iB = true := by kernel_rfl
theorem newer_AA : newerI iA iA = false := by kernel_rfl
theorem same_AA : It.same iA iA = true := same_refl _
theorem same_GG : It.same iG iG = true := same_refl _
theorem same_BB : It.same iB iB = true := same_refl _
theorem of_three : [iA, iY, iB].filter (ofI ⟨#[107]⟩) = [iA, iB] := by
  have h1 : ofI ⟨#[107]⟩ iA = true := by simp [ofI, iA]
  have h2 : ofI ⟨#[107]⟩ iY = false := by simp [ofI, iY, ByteArray.toList_eq]
  have h3 : ofI ⟨#[107]⟩ iB = true := by simp [ofI, iB]
  simp [List.filter_cons, h1, h2, h3]
theorem keys_four : keysL [iX, iA, iB, iX] = [[98], [107]] := by
  have h : ([iX, iA, iB, iX].map keyL).mergeSort (fun x y => decide (x ≤ y)) = [[98], [98], [107], [107]] := by
    show ([[98], [107], [107], [98]] : List (List UInt8)).mergeSort (fun x y => decide (x ≤ y)) = _
    have e1 : ([98] : List UInt8) ≤ [107] := by decide
    have e2 : ¬ ([107] : List UInt8) ≤ [98] := by decide
    have e3 : ([98] : List UInt8) ≤ [98] := by decide
    have e4 : ([107] : List UInt8) ≤ [107] := by decide
    simp [List.mergeSort, List.MergeSort.Internal.splitInTwo, List.merge, e1, e2, e3, e4]
  rw [keysL, h]
  decide
theorem SlI.lit (W : World) (l : List It) : SlI (W.alloc (.cells (ivI l).toArray 40)) (some ⟨W.heap.size, 0, none⟩) l.length l := by
  refine ⟨Nat.le_refl _, fun e => (by cases e), fun hn => ⟨W.heap.size, 0, rfl, by simp, fun k hk j u hu => ?_⟩⟩
  have hj : j < 4 := (List.getElem?_eq_some_iff.1 hu).1
  have h1 := ivI_at l k j hk hj
  have hg := World.alloc_heap_new W (.cells (ivI l).toArray 40)
  simp only [World.cell?, hg]
  rw [hu] at h1
  simpa using h1
theorem SlI.second {W : World} {A : Option Addr} {c : Nat} {x y : It} (h : SlI W A c [x, y]) : ∃ b off, A = some ⟨b, off, none⟩ ∧ b < W.heap.size ∧ W.rangeAt b (off + 4) y.cells.toList := by
  obtain ⟨b, off, e, hlt, hc⟩ := h.at_ (by simp)
  exact ⟨b, off, e, hlt, hc 1 (by simp)⟩
theorem lit_below {W V : World} (o : Obj) (h : Below (W.alloc o).heap.size (W.alloc o) V) : Below W.heap.size W V := (one_more o).trans (h.mono (one_more (w := W) o).size)
theorem keys_cells {W : World} {base : Nat} {A : Option Addr} {c : Nat} (h : W.ownsRow base 9 1 (.slice A ([[98], [107]] : List (List UInt8)).length c) ([[98], [107]] : List (List UInt8)).length (([[98], [107]] : List (List UInt8)).map encStr)) :
    ∃ g, A = some ⟨g, 0, none⟩ ∧ W.cell? ⟨g, 0, none⟩ = some (.string ⟨#[98]⟩) ∧ W.cell? ⟨g, 1, none⟩ = some (.string ⟨#[107]⟩) := by
  rcases h.2 with ⟨-, h0⟩ | ⟨g, cap, cur, hv, -⟩
  · cases h0
  · injection hv with e1 _ _
    subst e1
    exact ⟨g, rfl, (h.cellAt 0 (by simp)).trans rfl, (h.cellAt 1 (by simp)).trans rfl⟩
theorem wpList_load_lit {ops : Array Oper} {rest : List Oper} {a : Act} {w : World} {Q : Exit → Act → World → Prop} {dst : Option Tmp} {ty : TypeId} {pos : String} {af : Array Edge} {t : Nat} {gd : Option (Nat × Bool)} (k : ByteArray) (v n : Int) (g : Bool) (B : Nat)
    (hg : IBox w B ⟨k, v, n, g⟩)
    (hw : Region.wanted { dst := dst, op := .load 40 (.tmp t), type := ty, pos := pos, after := af, guard := gd } (yielded ops a.tmps) = true) (hx : a.eval (.tmp t) = .pointer (some ⟨B, 0, none⟩)) (h : wpList Try.prog ops Q rest (a.put dst (.agg #[.string k, .int .i64 v, .int .i64 n, .bool g])) w) :
    wpList Try.prog ops Q ({ dst := dst, op := .load 40 (.tmp t), type := ty, pos := pos, after := af, guard := gd } :: rest) a w := wpList_load_item ⟨k, v, n, g⟩ B hg hw hx h

theorem cmp_agg (a b : It) (w : World) : Calls Try.prog 32 #[.agg a.cells, .agg b.cells] w fun e w' => e = .returned (.int .i64 (cmpI a b)) ∧ Below w.heap.size w w' := item_Cmp a b w
theorem newer_agg (a b : It) (w : World) : Calls Try.prog 33 #[.agg a.cells, .agg b.cells] w fun e w' => e = .returned (.bool (newerI a b)) ∧ Below w.heap.size w w' := item_Newer a b w
theorem cmp_lit (k1 : ByteArray) (v1 n1 : Int) (g1 : Bool) (k2 : ByteArray) (v2 n2 : Int) (g2 : Bool) (w : World) : Calls Try.prog 32 #[.agg #[.string k1, .int .i64 v1, .int .i64 n1, .bool g1], .agg #[.string k2, .int .i64 v2, .int .i64 n2, .bool g2]] w fun e w' => e = .returned (.int .i64 (cmpI ⟨k1, v1, n1, g1⟩ ⟨k2, v2, n2, g2⟩)) ∧ Below w.heap.size w w' := item_Cmp ⟨k1, v1, n1, g1⟩ ⟨k2, v2, n2, g2⟩ w
theorem newer_lit (k1 : ByteArray) (v1 n1 : Int) (g1 : Bool) (k2 : ByteArray) (v2 n2 : Int) (g2 : Bool) (w : World) : Calls Try.prog 33 #[.agg #[.string k1, .int .i64 v1, .int .i64 n1, .bool g1], .agg #[.string k2, .int .i64 v2, .int .i64 n2, .bool g2]] w fun e w' => e = .returned (.bool (newerI ⟨k1, v1, n1, g1⟩ ⟨k2, v2, n2, g2⟩)) ∧ Below w.heap.size w w' := item_Newer ⟨k1, v1, n1, g1⟩ ⟨k2, v2, n2, g2⟩ w
theorem pair_lit (k : ByteArray) (v n : Int) (g : Bool) (w : World) : Calls Try.prog 37 #[.agg #[.string k, .int .i64 v, .int .i64 n, .bool g]] w fun e w' => e = .returned (.bool (pairI ⟨k, v, n, g⟩)) ∧ Below w.heap.size w w' := r06_Pair ⟨k, v, n, g⟩ w
theorem pair_agg (x : It) (w : World) : Calls Try.prog 37 #[.agg x.cells] w fun e w' => e = .returned (.bool (pairI x)) ∧ Below w.heap.size w w' := r06_Pair x w

set_option maxRecDepth 100000 in
set_option maxHeartbeats 4000000 in
theorem law19_wakes (w : World) : Calls Try.prog 34 #[] w fun e w' => e = .returned (.bool true) ∧ Below w.heap.size w w' := by
  go_enter Try.func34, Try.ntmps34
  go_upto_region 2 with (fail)
  refine name_world fun W1 hW1 => ?_
  have hB1 : Below w.heap.size w W1 := by rw [← hW1]; exact two_more _ _
  have a1 : IBox W1 w.heap.size iA := by rw [← hW1]; exact (IBox.new w iA).below (one_more _)
  have b1 : IBox W1 (w.heap.size + 1) iB := by rw [← hW1]; exact IBox.second w _ iB
  clear hW1
  go_upto_region 3 with (first | (refine wpList_load_lit (t := 1) ⟨#[107]⟩ 1 2 false w.heap.size ?hg ?hw ?hx ?_; (case hg => exact a1); (case hw => rfl); (case hx => rfl)) | (refine wpList_load_lit (t := 2) ⟨#[107]⟩ 9 1 false (w.heap.size + 1) ?hg ?hw ?hx ?_; (case hg => exact b1); (case hw => rfl); (case hx => rfl)) | (go_at_call 36; refine (item_Newest _ _ [It.zero, iB, iA] _ (SlI.lit _ [It.zero, iB, iA]) (by decide)).mono ?_; rintro e V ⟨he, hb⟩; rw [new_two] at he; dsimp only [It.v, It.cells, iA] at he; subst he; have hbV := lit_below _ hb))
  refine name_world fun W2 hW2 => ?_
  have n2 : IBox W2 V.heap.size iA := by rw [← hW2]; exact IBox.new V iA
  have hV2 : Below W1.heap.size W1 W2 := by rw [← hW2]; exact hbV.trans ((one_more _).mono hbV.size)
  generalize V.heap.size = n3 at n2 ⊢
  have a2 := a1.below hV2
  have b2 := b1.below hV2
  have hB2 := hB1.trans (hV2.mono hB1.size)
  clear hW2 hbV hb V a1 b1 hB1 hV2
  go_upto_region 4 with (first | (go_at_call 36; refine (item_Newest _ _ [It.zero] _ (SlI.lit _ [It.zero]) (by decide)).mono ?_; rintro e V ⟨he, hb⟩; rw [new_zero] at he; dsimp only [It.v, It.cells, It.zero] at he; subst he; have hbV := lit_below _ hb))
  refine name_world fun W3 hW3 => ?_
  have hV3 : Below W2.heap.size W2 W3 := by rw [← hW3]; exact hbV.trans ((one_more _).mono hbV.size)
  generalize V.heap.size = n5
  have a3 := a2.below hV3
  have b3 := b2.below hV3
  have n3' := n2.below hV3
  have hB3 := hB2.trans (hV3.mono hB2.size)
  clear hW3 hbV hb V a2 b2 n2 hB2 hV3
  go_upto_region 5 with (first | (refine wpList_load_lit (t := 1) ⟨#[107]⟩ 1 2 false w.heap.size ?hg ?hw ?hx ?_; (case hg => exact a3); (case hw => rfl); (case hx => rfl)) | (go_at_call 38; refine (item_Gone iA _).mono ?_; rintro e V ⟨he, hbV⟩; rw [gone_A] at he; dsimp only [It.v, It.cells, iG] at he; subst he))
  refine name_world fun W4 hW4 => ?_
  have g4 : IBox W4 V.heap.size iG := by rw [← hW4]; exact IBox.new V iG
  have hV4 : Below W3.heap.size W3 W4 := by rw [← hW4]; exact hbV.trans ((one_more _).mono hbV.size)
  generalize V.heap.size = n7 at g4 ⊢
  have a4 := a3.below hV4
  have b4 := b3.below hV4
  have n4 := n3'.below hV4
  have hB4 := hB3.trans (hV4.mono hB3.size)
  clear hW4 hbV V a3 b3 n3' hB3 hV4
  go_upto_region 6 with (first | (refine wpList_load_lit (t := 1) ⟨#[107]⟩ 1 2 false w.heap.size ?hg ?hw ?hx ?_; (case hg => exact a4); (case hw => rfl); (case hx => rfl)) | (refine wpList_load_lit (t := 2) ⟨#[107]⟩ 9 1 false (w.heap.size + 1) ?hg ?hw ?hx ?_; (case hg => exact b4); (case hw => rfl); (case hx => rfl)) | (go_at_call 72; refine (item_Keys _ _ [iX, iA, iB, iX] _ (SlI.lit _ [iX, iA, iB, iX]) (by decide)).mono ?_; rintro e V ⟨Ak, ck, he, hok, hb⟩; rw [keys_four] at he hok; subst he; have hbV := lit_below _ hb))
  have a5 := a4.below hbV
  have b5 := b4.below hbV
  have n5' := n4.below hbV
  have g5 := g4.below hbV
  have hB5 := hB4.trans (hbV.mono hB4.size)
  obtain ⟨gk, rfl, k0, k1⟩ := keys_cells hok
  have kl := hok.lt gk rfl
  clear hbV hb hok a4 b4 n4 g4 hB4
  refine name_world fun W5 hW5 => ?_
  rw [hW5] at a5 b5 n5' g5 hB5 k0 k1 kl
  clear hW5
  go_upto_region 7 with (first | (refine wpList_load_lit (t := 1) ⟨#[107]⟩ 1 2 false w.heap.size ?hg ?hw ?hx ?_; (case hg => exact a5); (case hw => rfl); (case hx => rfl)) | (refine wpList_load_lit (t := 2) ⟨#[107]⟩ 9 1 false (w.heap.size + 1) ?hg ?hw ?hx ?_; (case hg => exact b5); (case hw => rfl); (case hx => rfl)) | (go_at_call 73; refine (item_Of ⟨#[107]⟩ _ _ [iA, iY, iB] _ (SlI.lit _ [iA, iY, iB]) (by decide)).mono ?_; rintro e V ⟨Ao, co, he, hso, hmo, hb, hfo⟩; rw [of_three] at he hso; subst he; have hbV := lit_below _ hb))
  have a6 := a5.below hbV
  have b6 := b5.below hbV
  have n6 := n5'.below hbV
  have g6 := g5.below hbV
  have hB6 := hB5.trans (hbV.mono hB5.size)
  have k06 := (World.cell?_of_block (a := ⟨gk, 0, none⟩) (hbV.block gk kl.2)).trans k0
  have k16 := (World.cell?_of_block (a := ⟨gk, 1, none⟩) (hbV.block gk kl.2)).trans k1
  obtain ⟨bo, oo, rfl, hlo, hro⟩ := hso.second
  have hlk : gk < _ := Nat.lt_of_lt_of_le kl.2 hbV.size
  clear hbV hb hso hmo hfo a5 b5 n5' g5 hB5 k0 k1 kl
  refine name_world fun W6 hW6 => ?_
  rw [hW6] at a6 b6 n6 g6 hB6 k06 k16 hlo hro hlk
  clear hW6
  go_upto_region 9 with (fail)
  refine wp_region_held_drew (S := (fun w' => Below W6.heap.size W6 w')) (by kernel_rfl) (Below.refl _ _).drew (fun hHeld => ?_)
  refine wpAnyH_take (i := 0) (oi := { dst := some 47, op := Op.load 40 (Operand.tmp 1), type := 40, pos := "law.go:22", after := #[], guard := none }) (v := .agg (It.cells iA)) rfl (by kernel_rfl) (by kernel_rfl) (by kernel_rfl) (fun _ _ _ h => h) (yields_item (t := 1) iA w.heap.size (by kernel_rfl) rfl (fun w h => a6.below h)) hHeld ?_
  simp only [Act.put, List.setIfInBounds_toArray, List.set_cons_zero, List.set_cons_succ]
  refine wpAnyH_take (i := 1) (oi := { dst := some 48, op := Op.load 40 (Operand.tmp 2), type := 40, pos := "law.go:22", after := #[], guard := none }) (v := .agg (It.cells iB)) rfl (by kernel_rfl) (by kernel_rfl) (by kernel_rfl) (fun _ _ _ h => h) (yields_item (t := 2) iB (w.heap.size + 1) (by kernel_rfl) rfl (fun w h => b6.below h)) hHeld ?_
  simp only [Act.put, List.setIfInBounds_toArray, List.set_cons_zero, List.set_cons_succ]
  refine wpAnyH_ready (rs := [2]) (by kernel_rfl) (by simp) ?_
  refine AllReadyH.cons (o := { dst := some 49, op := Op.call { callee := Callee.value (Operand.func 32), args := #[Operand.tmp 47, Operand.tmp 48], argTypes := #[40, 40] }, type := 3, pos := "law.go:22", after := #[{ on := 0, ground := Ground.data }, { on := 1, ground := Ground.data }], guard := none }) rfl (fun K hK => ?_) AllReadyH.nil
  go_simp
  go_wp2_with (go_at_call 32; refine (item_Cmp iA iB _).mono ?_; rintro e V ⟨he, hb⟩; rw [cmp_AB] at he; subst he)
  refine hK.out _ _ (hHeld.trans (hb.mono hHeld.size)) (fun hHeld => ?_)
  clear hK K
  refine wpAnyH_take (i := 3) (oi := { dst := some 50, op := Op.binOp BinOp.eql 3 (Operand.tmp 49) (Operand.const (Value.int IntKind.i64 1)) 3, type := 4, pos := "law.go:22", after := #[{ on := 2, ground := Ground.data }], guard := none }) (v := ?_) rfl (by kernel_rfl) (by kernel_rfl) (by kernel_rfl) (fun _ _ _ h => h) (Or.inl ⟨by kernel_rfl, ?_⟩) hHeld ?_
  rotate_left
  · intro w hSw; go_simp; try with_reducible rfl
  simp only [Act.put, List.setIfInBounds_toArray, List.set_cons_zero, List.set_cons_succ]
  refine wpAnyH_take (i := 4) (oi := { dst := some 51, op := Op.move (Operand.tmp 50), type := 4, pos := "law.go:22", after := #[{ on := 3, ground := Ground.data }, { on := 2, ground := Ground.chain }], guard := none }) (v := ?_) rfl (by kernel_rfl) (by kernel_rfl) (by kernel_rfl) (fun _ _ _ h => h) (Or.inl ⟨by kernel_rfl, ?_⟩) hHeld ?_
  rotate_left
  · intro w hSw; go_simp; try with_reducible rfl
  simp only [Act.put, List.setIfInBounds_toArray, List.set_cons_zero, List.set_cons_succ]
  refine wpAnyH_take (i := 5) (oi := { dst := some 52, op := Op.load 40 (Operand.tmp 2), type := 40, pos := "law.go:22", after := #[{ on := 4, ground := Ground.guard }], guard := some (4, true) }) (v := .agg (It.cells iB)) rfl (by kernel_rfl) (by kernel_rfl) (by kernel_rfl) (fun _ _ _ h => h) (yields_item (t := 2) iB (w.heap.size + 1) (by kernel_rfl) rfl (fun w h => b6.below h)) hHeld ?_
  simp only [Act.put, List.setIfInBounds_toArray, List.set_cons_zero, List.set_cons_succ]
  refine wpAnyH_take (i := 6) (oi := { dst := some 53, op := Op.load 40 (Operand.tmp 1), type := 40, pos := "law.go:22", after := #[{ on := 4, ground := Ground.guard }], guard := some (4, true) }) (v := .agg (It.cells iA)) rfl (by kernel_rfl) (by kernel_rfl) (by kernel_rfl) (fun _ _ _ h => h) (yields_item (t := 1) iA w.heap.size (by kernel_rfl) rfl (fun w h => a6.below h)) hHeld ?_
  simp only [Act.put, List.setIfInBounds_toArray, List.set_cons_zero, List.set_cons_succ]
  refine wpAnyH_ready (rs := [7]) (by kernel_rfl) (by simp) ?_
  refine AllReadyH.cons (o := { dst := some 54, op := Op.call { callee := Callee.value (Operand.func 32), args := #[Operand.tmp 52, Operand.tmp 53], argTypes := #[40, 40] }, type := 3, pos := "law.go:22", after := #[{ on := 5, ground := Ground.data }, { on := 6, ground := Ground.data }, { on := 4, ground := Ground.chain }, { on := 4, ground := Ground.guard }], guard := some (4, true) }) rfl (fun K hK => ?_) AllReadyH.nil
  go_simp
  go_wp2_with (go_at_call 32; refine (item_Cmp iB iA _).mono ?_; rintro e V ⟨he, hb⟩; rw [cmp_BA] at he; subst he)
  refine hK.out _ _ (hHeld.trans (hb.mono hHeld.size)) (fun hHeld => ?_)
  clear hK K
  refine wpAnyH_take (i := 8) (oi := { dst := some 55, op := Op.binOp BinOp.eql 3 (Operand.tmp 54) (Operand.const (Value.int IntKind.i64 (-1))) 3, type := 4, pos := "law.go:22", after := #[{ on := 7, ground := Ground.data }, { on := 4, ground := Ground.guard }], guard := some (4, true) }) (v := ?_) rfl (by kernel_rfl) (by kernel_rfl) (by kernel_rfl) (fun _ _ _ h => h) (Or.inl ⟨by kernel_rfl, ?_⟩) hHeld ?_
  rotate_left
  · intro w hSw; go_simp; try with_reducible rfl
  simp only [Act.put, List.setIfInBounds_toArray, List.set_cons_zero, List.set_cons_succ]
  refine wpAnyH_take (i := 9) (oi := { dst := some 56, op := Op.pick (Operand.tmp 51) (Operand.tmp 55) (Operand.const (Value.bool false)), type := 4, pos := "law.go:22", after := #[{ on := 4, ground := Ground.data }, { on := 8, ground := Ground.data }], guard := none }) (v := ?_) rfl (by kernel_rfl) (by kernel_rfl) (by kernel_rfl) (fun _ _ _ h => h) (Or.inl ⟨by kernel_rfl, ?_⟩) hHeld ?_
  rotate_left
  · intro w hSw; go_simp; try with_reducible rfl
  simp only [Act.put, List.setIfInBounds_toArray, List.set_cons_zero, List.set_cons_succ]
  refine wpAnyH_take (i := 10) (oi := { dst := some 57, op := Op.move (Operand.tmp 56), type := 4, pos := "law.go:22", after := #[{ on := 9, ground := Ground.data }, { on := 7, ground := Ground.chain }], guard := none }) (v := ?_) rfl (by kernel_rfl) (by kernel_rfl) (by kernel_rfl) (fun _ _ _ h => h) (Or.inl ⟨by kernel_rfl, ?_⟩) hHeld ?_
  rotate_left
  · intro w hSw; go_simp; try with_reducible rfl
  simp only [Act.put, List.setIfInBounds_toArray, List.set_cons_zero, List.set_cons_succ]
  refine wpAnyH_take (i := 11) (oi := { dst := some 58, op := Op.load 40 (Operand.tmp 1), type := 40, pos := "law.go:22", after := #[{ on := 10, ground := Ground.guard }], guard := some (10, true) }) (v := .agg (It.cells iA)) rfl (by kernel_rfl) (by kernel_rfl) (by kernel_rfl) (fun _ _ _ h => h) (yields_item (t := 1) iA w.heap.size (by kernel_rfl) rfl (fun w h => a6.below h)) hHeld ?_
  simp only [Act.put, List.setIfInBounds_toArray, List.set_cons_zero, List.set_cons_succ]
  refine wpAnyH_take (i := 12) (oi := { dst := some 59, op := Op.load 40 (Operand.tmp 2), type := 40, pos := "law.go:22", after := #[{ on := 10, ground := Ground.guard }], guard := some (10, true) }) (v := .agg (It.cells iB)) rfl (by kernel_rfl) (by kernel_rfl) (by kernel_rfl) (fun _ _ _ h => h) (yields_item (t := 2) iB (w.heap.size + 1) (by kernel_rfl) rfl (fun w h => b6.below h)) hHeld ?_
  simp only [Act.put, List.setIfInBounds_toArray, List.set_cons_zero, List.set_cons_succ]
  refine wpAnyH_ready (rs := [13]) (by kernel_rfl) (by simp) ?_
  refine AllReadyH.cons (o := { dst := some 60, op := Op.call { callee := Callee.value (Operand.func 33), args := #[Operand.tmp 58, Operand.tmp 59], argTypes := #[40, 40] }, type := 4, pos := "law.go:22", after := #[{ on := 11, ground := Ground.data }, { on := 12, ground := Ground.data }, { on := 10, ground := Ground.chain }, { on := 10, ground := Ground.guard }], guard := some (10, true) }) rfl (fun K hK => ?_) AllReadyH.nil
  go_simp
  go_wp2_with (go_at_call 33; refine (item_Newer iA iB _).mono ?_; rintro e V ⟨he, hb⟩; rw [newer_AB] at he; subst he)
  refine hK.out _ _ (hHeld.trans (hb.mono hHeld.size)) (fun hHeld => ?_)
  clear hK K
  refine wpAnyH_take (i := 14) (oi := { dst := some 61, op := Op.pick (Operand.tmp 57) (Operand.tmp 60) (Operand.const (Value.bool false)), type := 4, pos := "law.go:22", after := #[{ on := 10, ground := Ground.data }, { on := 13, ground := Ground.data }], guard := none }) (v := ?_) rfl (by kernel_rfl) (by kernel_rfl) (by kernel_rfl) (fun _ _ _ h => h) (Or.inl ⟨by kernel_rfl, ?_⟩) hHeld ?_
  rotate_left
  · intro w hSw; go_simp; try with_reducible rfl
  simp only [Act.put, List.setIfInBounds_toArray, List.set_cons_zero, List.set_cons_succ]
  refine wpAnyH_take (i := 15) (oi := { dst := some 62, op := Op.move (Operand.tmp 61), type := 4, pos := "law.go:22", after := #[{ on := 14, ground := Ground.data }, { on := 13, ground := Ground.chain }], guard := none }) (v := ?_) rfl (by kernel_rfl) (by kernel_rfl) (by kernel_rfl) (fun _ _ _ h => h) (Or.inl ⟨by kernel_rfl, ?_⟩) hHeld ?_
  rotate_left
  · intro w hSw; go_simp; try with_reducible rfl
  simp only [Act.put, List.setIfInBounds_toArray, List.set_cons_zero, List.set_cons_succ]
  refine wpAnyH_take (i := 16) (oi := { dst := some 63, op := Op.load 40 (Operand.tmp 1), type := 40, pos := "law.go:22", after := #[{ on := 15, ground := Ground.guard }], guard := some (15, true) }) (v := .agg (It.cells iA)) rfl (by kernel_rfl) (by kernel_rfl) (by kernel_rfl) (fun _ _ _ h => h) (yields_item (t := 1) iA w.heap.size (by kernel_rfl) rfl (fun w h => a6.below h)) hHeld ?_
  simp only [Act.put, List.setIfInBounds_toArray, List.set_cons_zero, List.set_cons_succ]
  refine wpAnyH_take (i := 17) (oi := { dst := some 64, op := Op.load 40 (Operand.tmp 1), type := 40, pos := "law.go:22", after := #[{ on := 15, ground := Ground.guard }], guard := some (15, true) }) (v := .agg (It.cells iA)) rfl (by kernel_rfl) (by kernel_rfl) (by kernel_rfl) (fun _ _ _ h => h) (yields_item (t := 1) iA w.heap.size (by kernel_rfl) rfl (fun w h => a6.below h)) hHeld ?_
  simp only [Act.put, List.setIfInBounds_toArray, List.set_cons_zero, List.set_cons_succ]
  refine wpAnyH_ready (rs := [18]) (by kernel_rfl) (by simp) ?_
  refine AllReadyH.cons (o := { dst := some 65, op := Op.call { callee := Callee.value (Operand.func 33), args := #[Operand.tmp 63, Operand.tmp 64], argTypes := #[40, 40] }, type := 4, pos := "law.go:22", after := #[{ on := 16, ground := Ground.data }, { on := 17, ground := Ground.data }, { on := 15, ground := Ground.chain }, { on := 15, ground := Ground.guard }], guard := some (15, true) }) rfl (fun K hK => ?_) AllReadyH.nil
  go_simp
  go_wp2_with (go_at_call 33; refine (item_Newer iA iA _).mono ?_; rintro e V ⟨he, hb⟩; rw [newer_AA] at he; subst he)
  refine hK.out _ _ (hHeld.trans (hb.mono hHeld.size)) (fun hHeld => ?_)
  clear hK K
  refine wpAnyH_take (i := 19) (oi := { dst := some 66, op := Op.unOp UnOp.not 4 (Operand.tmp 65), type := 4, pos := "law.go:22", after := #[{ on := 18, ground := Ground.data }, { on := 15, ground := Ground.guard }], guard := some (15, true) }) (v := ?_) rfl (by kernel_rfl) (by kernel_rfl) (by kernel_rfl) (fun _ _ _ h => h) (Or.inl ⟨by kernel_rfl, ?_⟩) hHeld ?_
  rotate_left
  · intro w hSw; go_simp; try with_reducible rfl
  simp only [Act.put, List.setIfInBounds_toArray, List.set_cons_zero, List.set_cons_succ]
  refine wpAnyH_take (i := 20) (oi := { dst := some 67, op := Op.pick (Operand.tmp 62) (Operand.tmp 66) (Operand.const (Value.bool false)), type := 4, pos := "law.go:22", after := #[{ on := 15, ground := Ground.data }, { on := 19, ground := Ground.data }], guard := none }) (v := ?_) rfl (by kernel_rfl) (by kernel_rfl) (by kernel_rfl) (fun _ _ _ h => h) (Or.inl ⟨by kernel_rfl, ?_⟩) hHeld ?_
  rotate_left
  · intro w hSw; go_simp; try with_reducible rfl
  simp only [Act.put, List.setIfInBounds_toArray, List.set_cons_zero, List.set_cons_succ]
  refine wpAnyH_take (i := 21) (oi := { dst := some 68, op := Op.move (Operand.tmp 67), type := 4, pos := "law.go:22", after := #[{ on := 20, ground := Ground.data }, { on := 18, ground := Ground.chain }], guard := none }) (v := ?_) rfl (by kernel_rfl) (by kernel_rfl) (by kernel_rfl) (fun _ _ _ h => h) (Or.inl ⟨by kernel_rfl, ?_⟩) hHeld ?_
  rotate_left
  · intro w hSw; go_simp; try with_reducible rfl
  simp only [Act.put, List.setIfInBounds_toArray, List.set_cons_zero, List.set_cons_succ]
  refine wpAnyH_take (i := 22) (oi := { dst := some 69, op := Op.load 40 (Operand.tmp 3), type := 40, pos := "law.go:22", after := #[{ on := 21, ground := Ground.guard }], guard := some (21, true) }) (v := .agg (It.cells iA)) rfl (by kernel_rfl) (by kernel_rfl) (by kernel_rfl) (fun _ _ _ h => h) (yields_item (t := 3) iA n3 (by kernel_rfl) rfl (fun w h => n6.below h)) hHeld ?_
  simp only [Act.put, List.setIfInBounds_toArray, List.set_cons_zero, List.set_cons_succ]
  refine wpAnyH_take (i := 23) (oi := { dst := some 70, op := Op.load 40 (Operand.tmp 1), type := 40, pos := "law.go:22", after := #[{ on := 21, ground := Ground.guard }], guard := some (21, true) }) (v := .agg (It.cells iA)) rfl (by kernel_rfl) (by kernel_rfl) (by kernel_rfl) (fun _ _ _ h => h) (yields_item (t := 1) iA w.heap.size (by kernel_rfl) rfl (fun w h => a6.below h)) hHeld ?_
  simp only [Act.put, List.setIfInBounds_toArray, List.set_cons_zero, List.set_cons_succ]
  refine wpAnyH_take (i := 24) (oi := { dst := some 71, op := Op.binOp BinOp.eql 40 (Operand.tmp 69) (Operand.tmp 70) 40, type := 4, pos := "law.go:22", after := #[{ on := 22, ground := Ground.data }, { on := 23, ground := Ground.data }, { on := 21, ground := Ground.guard }], guard := some (21, true) }) (v := .bool true) rfl (by kernel_rfl) (by kernel_rfl) (by kernel_rfl) (fun _ _ _ h => h) (Or.inl ⟨by kernel_rfl, fun w _ => by rw [exec_eql_item rfl iA iA rfl rfl w, same_AA]⟩) hHeld ?_
  simp only [Act.put, List.setIfInBounds_toArray, List.set_cons_zero, List.set_cons_succ]
  refine wpAnyH_take (i := 25) (oi := { dst := some 72, op := Op.pick (Operand.tmp 68) (Operand.tmp 71) (Operand.const (Value.bool false)), type := 4, pos := "law.go:22", after := #[{ on := 21, ground := Ground.data }, { on := 24, ground := Ground.data }], guard := none }) (v := ?_) rfl (by kernel_rfl) (by kernel_rfl) (by kernel_rfl) (fun _ _ _ h => h) (Or.inl ⟨by kernel_rfl, ?_⟩) hHeld ?_
  rotate_left
  · intro w hSw; go_simp; try with_reducible rfl
  simp only [Act.put, List.setIfInBounds_toArray, List.set_cons_zero, List.set_cons_succ]
  refine wpAnyH_take (i := 26) (oi := { dst := some 73, op := Op.move (Operand.tmp 72), type := 4, pos := "law.go:22", after := #[{ on := 25, ground := Ground.data }, { on := 21, ground := Ground.chain }], guard := none }) (v := ?_) rfl (by kernel_rfl) (by kernel_rfl) (by kernel_rfl) (fun _ _ _ h => h) (Or.inl ⟨by kernel_rfl, ?_⟩) hHeld ?_
  rotate_left
  · intro w hSw; go_simp; try with_reducible rfl
  simp only [Act.put, List.setIfInBounds_toArray, List.set_cons_zero, List.set_cons_succ]
  refine wpAnyH_take (i := 27) (oi := { dst := some 74, op := Op.move (Operand.tmp 4), type := 4, pos := "law.go:22", after := #[{ on := 26, ground := Ground.guard }], guard := some (26, true) }) (v := ?_) rfl (by kernel_rfl) (by kernel_rfl) (by kernel_rfl) (fun _ _ _ h => h) (Or.inl ⟨by kernel_rfl, ?_⟩) hHeld ?_
  rotate_left
  · intro w hSw; go_simp; try with_reducible rfl
  simp only [Act.put, List.setIfInBounds_toArray, List.set_cons_zero, List.set_cons_succ]
  refine wpAnyH_take (i := 28) (oi := { dst := some 75, op := Op.pick (Operand.tmp 73) (Operand.tmp 74) (Operand.const (Value.bool false)), type := 4, pos := "law.go:22", after := #[{ on := 26, ground := Ground.data }, { on := 27, ground := Ground.data }], guard := none }) (v := ?_) rfl (by kernel_rfl) (by kernel_rfl) (by kernel_rfl) (fun _ _ _ h => h) (Or.inl ⟨by kernel_rfl, ?_⟩) hHeld ?_
  rotate_left
  · intro w hSw; go_simp; try with_reducible rfl
  simp only [Act.put, List.setIfInBounds_toArray, List.set_cons_zero, List.set_cons_succ]
  refine wpAnyH_take (i := 29) (oi := { dst := some 76, op := Op.move (Operand.tmp 75), type := 4, pos := "law.go:22", after := #[{ on := 28, ground := Ground.data }, { on := 26, ground := Ground.chain }], guard := none }) (v := ?_) rfl (by kernel_rfl) (by kernel_rfl) (by kernel_rfl) (fun _ _ _ h => h) (Or.inl ⟨by kernel_rfl, ?_⟩) hHeld ?_
  rotate_left
  · intro w hSw; go_simp; try with_reducible rfl
  simp only [Act.put, List.setIfInBounds_toArray, List.set_cons_zero, List.set_cons_succ]
  refine wpAnyH_take (i := 30) (oi := { dst := some 77, op := Op.move (Operand.tmp 6), type := 4, pos := "law.go:22", after := #[{ on := 29, ground := Ground.guard }], guard := some (29, true) }) (v := ?_) rfl (by kernel_rfl) (by kernel_rfl) (by kernel_rfl) (fun _ _ _ h => h) (Or.inl ⟨by kernel_rfl, ?_⟩) hHeld ?_
  rotate_left
  · intro w hSw; go_simp; try with_reducible rfl
  simp only [Act.put, List.setIfInBounds_toArray, List.set_cons_zero, List.set_cons_succ]
  refine wpAnyH_take (i := 31) (oi := { dst := some 78, op := Op.unOp UnOp.not 4 (Operand.tmp 77), type := 4, pos := "law.go:22", after := #[{ on := 30, ground := Ground.data }, { on := 29, ground := Ground.guard }], guard := some (29, true) }) (v := ?_) rfl (by kernel_rfl) (by kernel_rfl) (by kernel_rfl) (fun _ _ _ h => h) (Or.inl ⟨by kernel_rfl, ?_⟩) hHeld ?_
  rotate_left
  · intro w hSw; go_simp; try with_reducible rfl
  simp only [Act.put, List.setIfInBounds_toArray, List.set_cons_zero, List.set_cons_succ]
  refine wpAnyH_take (i := 32) (oi := { dst := some 79, op := Op.pick (Operand.tmp 76) (Operand.tmp 78) (Operand.const (Value.bool false)), type := 4, pos := "law.go:22", after := #[{ on := 29, ground := Ground.data }, { on := 31, ground := Ground.data }], guard := none }) (v := ?_) rfl (by kernel_rfl) (by kernel_rfl) (by kernel_rfl) (fun _ _ _ h => h) (Or.inl ⟨by kernel_rfl, ?_⟩) hHeld ?_
  rotate_left
  · intro w hSw; go_simp; try with_reducible rfl
  simp only [Act.put, List.setIfInBounds_toArray, List.set_cons_zero, List.set_cons_succ]
  refine wpAnyH_take (i := 33) (oi := { dst := some 80, op := Op.move (Operand.tmp 79), type := 4, pos := "law.go:22", after := #[{ on := 32, ground := Ground.data }, { on := 29, ground := Ground.chain }], guard := none }) (v := ?_) rfl (by kernel_rfl) (by kernel_rfl) (by kernel_rfl) (fun _ _ _ h => h) (Or.inl ⟨by kernel_rfl, ?_⟩) hHeld ?_
  rotate_left
  · intro w hSw; go_simp; try with_reducible rfl
  simp only [Act.put, List.setIfInBounds_toArray, List.set_cons_zero, List.set_cons_succ]
  refine wpAnyH_take (i := 34) (oi := { dst := some 81, op := Op.load 40 (Operand.tmp 7), type := 40, pos := "law.go:22", after := #[{ on := 33, ground := Ground.guard }], guard := some (33, true) }) (v := .agg (It.cells iG)) rfl (by kernel_rfl) (by kernel_rfl) (by kernel_rfl) (fun _ _ _ h => h) (yields_item (t := 7) iG n7 (by kernel_rfl) rfl (fun w h => g6.below h)) hHeld ?_
  simp only [Act.put, List.setIfInBounds_toArray, List.set_cons_zero, List.set_cons_succ]
  refine wpAnyH_take (i := 35) (oi := { dst := some 82, op := Op.build 40 #[(0, Operand.const (Value.string { data := #[107] })), (2, Operand.const (Value.int IntKind.i64 3)), (3, Operand.const (Value.bool true))], type := 40, pos := "law.go:22", after := #[{ on := 33, ground := Ground.guard }], guard := some (33, true) }) (v := ?_) rfl (by kernel_rfl) (by kernel_rfl) (by kernel_rfl) (fun _ _ _ h => h) (Or.inl ⟨by kernel_rfl, ?_⟩) hHeld ?_
  rotate_left
  · intro w hSw; go_simp; try with_reducible rfl
  simp only [Act.put, List.setIfInBounds_toArray, List.set_cons_zero, List.set_cons_succ]
  refine wpAnyH_take (i := 36) (oi := { dst := some 83, op := Op.binOp BinOp.eql 40 (Operand.tmp 81) (Operand.tmp 82) 40, type := 4, pos := "law.go:22", after := #[{ on := 34, ground := Ground.data }, { on := 35, ground := Ground.data }, { on := 33, ground := Ground.guard }], guard := some (33, true) }) (v := .bool true) rfl (by kernel_rfl) (by kernel_rfl) (by kernel_rfl) (fun _ _ _ h => h) (Or.inl ⟨by kernel_rfl, fun w _ => by rw [exec_eql_item rfl iG iG rfl rfl w, same_GG]⟩) hHeld ?_
  simp only [Act.put, List.setIfInBounds_toArray, List.set_cons_zero, List.set_cons_succ]
  refine wpAnyH_take (i := 37) (oi := { dst := some 84, op := Op.pick (Operand.tmp 80) (Operand.tmp 83) (Operand.const (Value.bool false)), type := 4, pos := "law.go:22", after := #[{ on := 33, ground := Ground.data }, { on := 36, ground := Ground.data }], guard := none }) (v := ?_) rfl (by kernel_rfl) (by kernel_rfl) (by kernel_rfl) (fun _ _ _ h => h) (Or.inl ⟨by kernel_rfl, ?_⟩) hHeld ?_
  rotate_left
  · intro w hSw; go_simp; try with_reducible rfl
  simp only [Act.put, List.setIfInBounds_toArray, List.set_cons_zero, List.set_cons_succ]
  refine wpAnyH_take (i := 38) (oi := { dst := some 85, op := Op.move (Operand.tmp 84), type := 4, pos := "law.go:22", after := #[{ on := 37, ground := Ground.data }, { on := 33, ground := Ground.chain }], guard := none }) (v := ?_) rfl (by kernel_rfl) (by kernel_rfl) (by kernel_rfl) (fun _ _ _ h => h) (Or.inl ⟨by kernel_rfl, ?_⟩) hHeld ?_
  rotate_left
  · intro w hSw; go_simp; try with_reducible rfl
  simp only [Act.put, List.setIfInBounds_toArray, List.set_cons_zero, List.set_cons_succ]
  refine wpAnyH_take (i := 39) (oi := { dst := some 86, op := Op.move (Operand.tmp 8), type := 71, pos := "law.go:22", after := #[{ on := 38, ground := Ground.guard }], guard := some (38, true) }) (v := ?_) rfl (by kernel_rfl) (by kernel_rfl) (by kernel_rfl) (fun _ _ _ h => h) (Or.inl ⟨by kernel_rfl, ?_⟩) hHeld ?_
  rotate_left
  · intro w hSw; go_simp; try with_reducible rfl
  simp only [Act.put, List.setIfInBounds_toArray, List.set_cons_zero, List.set_cons_succ]
  refine wpAnyH_take (i := 40) (oi := { dst := some 87, op := Op.indexAddr 71 (Operand.tmp 86) (Operand.const (Value.int IntKind.i64 0)), type := 0, pos := "law.go:22", after := #[{ on := 39, ground := Ground.data }, { on := 38, ground := Ground.guard }], guard := some (38, true) }) (v := ?_) rfl (by kernel_rfl) (by kernel_rfl) (by kernel_rfl) (fun _ _ _ h => h) (Or.inl ⟨by kernel_rfl, ?_⟩) hHeld ?_
  rotate_left
  · intro w hSw; go_simp; try with_reducible rfl
  simp only [Act.put, List.setIfInBounds_toArray, List.set_cons_zero, List.set_cons_succ]
  refine wpAnyH_take (i := 41) (oi := { dst := some 88, op := Op.load 9 (Operand.tmp 87), type := 9, pos := "law.go:22", after := #[{ on := 40, ground := Ground.data }, { on := 38, ground := Ground.guard }], guard := some (38, true) }) (v := ?_) rfl (by kernel_rfl) (by kernel_rfl) (by kernel_rfl) (fun _ _ _ h => h) (Or.inl ⟨by kernel_rfl, ?_⟩) hHeld ?_
  rotate_left
  · intro w hSw; have k0 := (World.cell?_of_block (a := ⟨gk, 0, none⟩) (hSw.block gk hlk)).trans k06; have k1 := (World.cell?_of_block (a := ⟨gk, 1, none⟩) (hSw.block gk hlk)).trans k16; go_simp; try with_reducible rfl
  simp only [Act.put, List.setIfInBounds_toArray, List.set_cons_zero, List.set_cons_succ]
  refine wpAnyH_take (i := 42) (oi := { dst := some 89, op := Op.binOp BinOp.eql 9 (Operand.tmp 88) (Operand.const (Value.string { data := #[98] })) 9, type := 4, pos := "law.go:22", after := #[{ on := 41, ground := Ground.data }, { on := 38, ground := Ground.guard }], guard := some (38, true) }) (v := ?_) rfl (by kernel_rfl) (by kernel_rfl) (by kernel_rfl) (fun _ _ _ h => h) (Or.inl ⟨by kernel_rfl, ?_⟩) hHeld ?_
  rotate_left
  · intro w hSw; go_simp; try with_reducible rfl
  simp only [Act.put, List.setIfInBounds_toArray, List.set_cons_zero, List.set_cons_succ]
  refine wpAnyH_take (i := 43) (oi := { dst := some 90, op := Op.pick (Operand.tmp 85) (Operand.tmp 89) (Operand.const (Value.bool false)), type := 4, pos := "law.go:22", after := #[{ on := 38, ground := Ground.data }, { on := 42, ground := Ground.data }], guard := none }) (v := ?_) rfl (by kernel_rfl) (by kernel_rfl) (by kernel_rfl) (fun _ _ _ h => h) (Or.inl ⟨by kernel_rfl, ?_⟩) hHeld ?_
  rotate_left
  · intro w hSw; go_simp; try with_reducible rfl
  simp only [Act.put, List.setIfInBounds_toArray, List.set_cons_zero, List.set_cons_succ]
  refine wpAnyH_take (i := 44) (oi := { dst := some 91, op := Op.move (Operand.tmp 90), type := 4, pos := "law.go:22", after := #[{ on := 43, ground := Ground.data }, { on := 38, ground := Ground.chain }], guard := none }) (v := ?_) rfl (by kernel_rfl) (by kernel_rfl) (by kernel_rfl) (fun _ _ _ h => h) (Or.inl ⟨by kernel_rfl, ?_⟩) hHeld ?_
  rotate_left
  · intro w hSw; go_simp; try with_reducible rfl
  simp only [Act.put, List.setIfInBounds_toArray, List.set_cons_zero, List.set_cons_succ]
  refine wpAnyH_take (i := 45) (oi := { dst := some 92, op := Op.move (Operand.tmp 8), type := 71, pos := "law.go:22", after := #[{ on := 44, ground := Ground.guard }], guard := some (44, true) }) (v := ?_) rfl (by kernel_rfl) (by kernel_rfl) (by kernel_rfl) (fun _ _ _ h => h) (Or.inl ⟨by kernel_rfl, ?_⟩) hHeld ?_
  rotate_left
  · intro w hSw; go_simp; try with_reducible rfl
  simp only [Act.put, List.setIfInBounds_toArray, List.set_cons_zero, List.set_cons_succ]
  refine wpAnyH_take (i := 46) (oi := { dst := some 93, op := Op.indexAddr 71 (Operand.tmp 92) (Operand.const (Value.int IntKind.i64 1)), type := 0, pos := "law.go:22", after := #[{ on := 45, ground := Ground.data }, { on := 44, ground := Ground.guard }], guard := some (44, true) }) (v := ?_) rfl (by kernel_rfl) (by kernel_rfl) (by kernel_rfl) (fun _ _ _ h => h) (Or.inl ⟨by kernel_rfl, ?_⟩) hHeld ?_
  rotate_left
  · intro w hSw; go_simp; try with_reducible rfl
  simp only [Act.put, List.setIfInBounds_toArray, List.set_cons_zero, List.set_cons_succ]
  refine wpAnyH_take (i := 47) (oi := { dst := some 94, op := Op.load 9 (Operand.tmp 93), type := 9, pos := "law.go:22", after := #[{ on := 46, ground := Ground.data }, { on := 44, ground := Ground.guard }], guard := some (44, true) }) (v := ?_) rfl (by kernel_rfl) (by kernel_rfl) (by kernel_rfl) (fun _ _ _ h => h) (Or.inl ⟨by kernel_rfl, ?_⟩) hHeld ?_
  rotate_left
  · intro w hSw; have k0 := (World.cell?_of_block (a := ⟨gk, 0, none⟩) (hSw.block gk hlk)).trans k06; have k1 := (World.cell?_of_block (a := ⟨gk, 1, none⟩) (hSw.block gk hlk)).trans k16; go_simp; try with_reducible rfl
  simp only [Act.put, List.setIfInBounds_toArray, List.set_cons_zero, List.set_cons_succ]
  refine wpAnyH_take (i := 48) (oi := { dst := some 95, op := Op.binOp BinOp.eql 9 (Operand.tmp 94) (Operand.const (Value.string { data := #[107] })) 9, type := 4, pos := "law.go:22", after := #[{ on := 47, ground := Ground.data }, { on := 44, ground := Ground.guard }], guard := some (44, true) }) (v := ?_) rfl (by kernel_rfl) (by kernel_rfl) (by kernel_rfl) (fun _ _ _ h => h) (Or.inl ⟨by kernel_rfl, ?_⟩) hHeld ?_
  rotate_left
  · intro w hSw; go_simp; try with_reducible rfl
  simp only [Act.put, List.setIfInBounds_toArray, List.set_cons_zero, List.set_cons_succ]
  refine wpAnyH_take (i := 49) (oi := { dst := some 96, op := Op.pick (Operand.tmp 91) (Operand.tmp 95) (Operand.const (Value.bool false)), type := 4, pos := "law.go:22", after := #[{ on := 44, ground := Ground.data }, { on := 48, ground := Ground.data }], guard := none }) (v := ?_) rfl (by kernel_rfl) (by kernel_rfl) (by kernel_rfl) (fun _ _ _ h => h) (Or.inl ⟨by kernel_rfl, ?_⟩) hHeld ?_
  rotate_left
  · intro w hSw; go_simp; try with_reducible rfl
  simp only [Act.put, List.setIfInBounds_toArray, List.set_cons_zero, List.set_cons_succ]
  refine wpAnyH_take (i := 50) (oi := { dst := some 97, op := Op.move (Operand.tmp 96), type := 4, pos := "law.go:22", after := #[{ on := 49, ground := Ground.data }, { on := 44, ground := Ground.chain }], guard := none }) (v := ?_) rfl (by kernel_rfl) (by kernel_rfl) (by kernel_rfl) (fun _ _ _ h => h) (Or.inl ⟨by kernel_rfl, ?_⟩) hHeld ?_
  rotate_left
  · intro w hSw; go_simp; try with_reducible rfl
  simp only [Act.put, List.setIfInBounds_toArray, List.set_cons_zero, List.set_cons_succ]
  refine wpAnyH_take (i := 51) (oi := { dst := some 98, op := Op.move (Operand.tmp 9), type := 44, pos := "law.go:22", after := #[{ on := 50, ground := Ground.guard }], guard := some (50, true) }) (v := ?_) rfl (by kernel_rfl) (by kernel_rfl) (by kernel_rfl) (fun _ _ _ h => h) (Or.inl ⟨by kernel_rfl, ?_⟩) hHeld ?_
  rotate_left
  · intro w hSw; go_simp; try with_reducible rfl
  simp only [Act.put, List.setIfInBounds_toArray, List.set_cons_zero, List.set_cons_succ]
  refine wpAnyH_take (i := 52) (oi := { dst := some 99, op := Op.indexAddr 44 (Operand.tmp 98) (Operand.const (Value.int IntKind.i64 1)), type := 0, pos := "law.go:22", after := #[{ on := 51, ground := Ground.data }, { on := 50, ground := Ground.guard }], guard := some (50, true) }) (v := ?_) rfl (by kernel_rfl) (by kernel_rfl) (by kernel_rfl) (fun _ _ _ h => h) (Or.inl ⟨by kernel_rfl, ?_⟩) hHeld ?_
  rotate_left
  · intro w hSw; go_simp; try with_reducible rfl
  simp only [Act.put, List.setIfInBounds_toArray, List.set_cons_zero, List.set_cons_succ]
  refine wpAnyH_take (i := 53) (oi := { dst := some 100, op := Op.load 40 (Operand.tmp 99), type := 40, pos := "law.go:22", after := #[{ on := 52, ground := Ground.data }, { on := 50, ground := Ground.guard }], guard := some (50, true) }) (v := .agg (It.cells iB)) rfl (by kernel_rfl) (by kernel_rfl) (by kernel_rfl) (fun _ _ _ h => h) (yields_imid (t := 99) iB bo (oo + 4) (by kernel_rfl) rfl (fun w h => rangeAt_below hro hlo h)) hHeld ?_
  simp only [Act.put, List.setIfInBounds_toArray, List.set_cons_zero, List.set_cons_succ]
  refine wpAnyH_take (i := 54) (oi := { dst := some 101, op := Op.load 40 (Operand.tmp 2), type := 40, pos := "law.go:22", after := #[{ on := 50, ground := Ground.guard }], guard := some (50, true) }) (v := .agg (It.cells iB)) rfl (by kernel_rfl) (by kernel_rfl) (by kernel_rfl) (fun _ _ _ h => h) (yields_item (t := 2) iB (w.heap.size + 1) (by kernel_rfl) rfl (fun w h => b6.below h)) hHeld ?_
  simp only [Act.put, List.setIfInBounds_toArray, List.set_cons_zero, List.set_cons_succ]
  refine wpAnyH_take (i := 55) (oi := { dst := some 102, op := Op.binOp BinOp.eql 40 (Operand.tmp 100) (Operand.tmp 101) 40, type := 4, pos := "law.go:22", after := #[{ on := 53, ground := Ground.data }, { on := 54, ground := Ground.data }, { on := 50, ground := Ground.guard }], guard := some (50, true) }) (v := .bool true) rfl (by kernel_rfl) (by kernel_rfl) (by kernel_rfl) (fun _ _ _ h => h) (Or.inl ⟨by kernel_rfl, fun w _ => by rw [exec_eql_item rfl iB iB rfl rfl w, same_BB]⟩) hHeld ?_
  simp only [Act.put, List.setIfInBounds_toArray, List.set_cons_zero, List.set_cons_succ]
  refine wpAnyH_take (i := 56) (oi := { dst := some 103, op := Op.pick (Operand.tmp 97) (Operand.tmp 102) (Operand.const (Value.bool false)), type := 4, pos := "law.go:22", after := #[{ on := 50, ground := Ground.data }, { on := 55, ground := Ground.data }], guard := none }) (v := ?_) rfl (by kernel_rfl) (by kernel_rfl) (by kernel_rfl) (fun _ _ _ h => h) (Or.inl ⟨by kernel_rfl, ?_⟩) hHeld ?_
  rotate_left
  · intro w hSw; go_simp; try with_reducible rfl
  simp only [Act.put, List.setIfInBounds_toArray, List.set_cons_zero, List.set_cons_succ]
  refine wpAnyH_take (i := 57) (oi := { dst := some 0, op := Op.assign (Operand.tmp 103), type := 4, pos := "law.go:22", after := #[{ on := 56, ground := Ground.data }, { on := 50, ground := Ground.chain }, { on := 0, ground := Ground.phase }, { on := 1, ground := Ground.phase }, { on := 2, ground := Ground.phase }, { on := 3, ground := Ground.phase }, { on := 4, ground := Ground.phase }, { on := 5, ground := Ground.phase }, { on := 6, ground := Ground.phase }, { on := 7, ground := Ground.phase }, { on := 8, ground := Ground.phase }, { on := 9, ground := Ground.phase }, { on := 10, ground := Ground.phase }, { on := 11, ground := Ground.phase }, { on := 12, ground := Ground.phase }, { on := 13, ground := Ground.phase }, { on := 14, ground := Ground.phase }, { on := 15, ground := Ground.phase }, { on := 16, ground := Ground.phase }, { on := 17, ground := Ground.phase }, { on := 18, ground := Ground.phase }, { on := 19, ground := Ground.phase }, { on := 20, ground := Ground.phase }, { on := 21, ground := Ground.phase }, { on := 22, ground := Ground.phase }, { on := 23, ground := Ground.phase }, { on := 24, ground := Ground.phase }, { on := 25, ground := Ground.phase }, { on := 26, ground := Ground.phase }, { on := 27, ground := Ground.phase }, { on := 28, ground := Ground.phase }, { on := 29, ground := Ground.phase }, { on := 30, ground := Ground.phase }, { on := 31, ground := Ground.phase }, { on := 32, ground := Ground.phase }, { on := 33, ground := Ground.phase }, { on := 34, ground := Ground.phase }, { on := 35, ground := Ground.phase }, { on := 36, ground := Ground.phase }, { on := 37, ground := Ground.phase }, { on := 38, ground := Ground.phase }, { on := 39, ground := Ground.phase }, { on := 40, ground := Ground.phase }, { on := 41, ground := Ground.phase }, { on := 42, ground := Ground.phase }, { on := 43, ground := Ground.phase }, { on := 44, ground := Ground.phase }, { on := 45, ground := Ground.phase }, { on := 46, ground := Ground.phase }, { on := 47, ground := Ground.phase }, { on := 48, ground := Ground.phase }, { on := 49, ground := Ground.phase }, { on := 50, ground := Ground.phase }, { on := 51, ground := Ground.phase }, { on := 52, ground := Ground.phase }, { on := 53, ground := Ground.phase }, { on := 54, ground := Ground.phase }, { on := 55, ground := Ground.phase }, { on := 56, ground := Ground.phase }], guard := none }) (v := ?_) rfl (by kernel_rfl) (by kernel_rfl) (by kernel_rfl) (fun _ _ _ h => h) (Or.inl ⟨by kernel_rfl, ?_⟩) hHeld ?_
  rotate_left
  · intro w hSw; go_simp; try with_reducible rfl
  simp only [Act.put, List.setIfInBounds_toArray, List.set_cons_zero, List.set_cons_succ]
  refine wpAnyH_done (by kernel_rfl) ?_ _
  go_wp2
  go_ret
  exact ⟨rfl, hB6.trans (hHeld.mono hB6.size)⟩
end Go.Proofs.Ytbjgfcempfpfcaa
