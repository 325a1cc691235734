/- The law RectOwns. -/
import Derived.Test.YtbjgfcempfpfcaaBC
namespace Go.Proofs.Ytbjgfcempfpfcaa
open Go.RowKit Go.Shelf

def ApartV (x : View) (A1 A2 : Option Addr) (B : Nat) : Prop := (0 < x.base.length → ∀ b off, A1 = some ⟨b, off, none⟩ → b ≠ B) ∧ (0 < x.list.length → ∀ b off, A2 = some ⟨b, off, none⟩ → b ≠ B)
theorem ApartV.old {W : World} {x : View} {A1 A2 : Option Addr} {c1 c2 B : Nat} (h : RepV W x A1 c1 A2 c2) (hB : W.heap.size ≤ B) : ApartV x A1 A2 B :=
  ⟨fun hn b off e => by have := h.base.lt hn e; omega, fun hn b off e => by have := h.list.lt hn e; omega⟩
theorem ApartV.fresh (x : View) {A1 A2 : Option Addr} {s B : Nat} (h1 : ∀ b off, A1 = some ⟨b, off, none⟩ → s ≤ b) (h2 : ∀ b off, A2 = some ⟨b, off, none⟩ → s ≤ b) (hB : B < s) : ApartV x A1 A2 B :=
  ⟨fun _ b off e => by have := h1 b off e; omega, fun _ b off e => by have := h2 b off e; omega⟩
theorem Sl.row2 {w : World} {A : Option Addr} {c : Nat} {xs : List Int} (h : Sl w A c xs) (g : Nat) (cs : Array Value) (hk : 0 < xs.length → ∀ b off, A = some ⟨b, off, none⟩ → b ≠ g) : Sl (w.setRow g cs) A c xs :=
  ⟨h.cap, h.small, h.nil_, fun hn => by
    obtain ⟨b, off, e, hlt, hc⟩ := h.at_ hn
    exact ⟨b, off, e, by rw [size_setRow]; exact hlt, fun k hkk => (World.cell?_of_block (a := ⟨b, off + k, none⟩) (heap_setRow w g cs b (hk hn b off e))).trans (hc k hkk)⟩⟩
theorem RepV.rowA {W : World} {x : View} {A1 A2 : Option Addr} {c1 c2 B : Nat} (h : RepV W x A1 c1 A2 c2) (cs : Array Value) (ha : ApartV x A1 A2 B) : RepV (W.setRow B cs) x A1 c1 A2 c2 := ⟨h.base.row2 B cs ha.1, h.list.row2 B cs ha.2⟩
theorem RepV.setA {W : World} {x : View} {A1 A2 : Option Addr} {c1 c2 : Nat} {p : Addr} (h : RepV W x A1 c1 A2 c2) (v : Value) (ha : ApartV x A1 A2 p.block) : RepV (W.setCell p v) x A1 c1 A2 c2 := ⟨h.base.set2 p v ha.1, h.list.set2 p v ha.2⟩
theorem alloc_step {W W' : World} (e : W.alloc (.cells (View.zero.cells none 0 none 0) 25) = W') : VBox W' W.heap.size View.zero none 0 none 0 ∧ Below W.heap.size W W' := by
  subst e; exact ⟨VBox.new W View.zero none 0 none 0, (Below.refl _ W).alloc (Nat.le_refl _) _⟩
theorem name_K {K : Act → World → Prop} {a : Act} {W : World} (h : ∀ W', W = W' → K a W') : K a W := h W rfl
theorem region_held_named {P : Program} {ops : Array Oper} {Q : Exit → Act → World → Prop} {S : World → Prop} {id : Nat} {a : Act} {w : World} (hm : P.follows .mixedOrders = true) (hS : S w.drew)
    (h : ∀ V, S V → wpAnyH P .any ops Q S ops.size (Array.replicate ops.size false) a V) : (Code.region id ops true).wp P Q a w := wp_region_held_drew hm hS (h _)

/-- The other side while its fingers are being set. -/
def partF (x : View) (n : Int) (j : Nat) : View := ⟨n, x.base, [], x.id, fun i => if i < j then -1 else x.f i⟩
theorem partF_next (x : View) (n : Int) (k : Nat) : (partF x n k).withF k (-1) = partF x n (k + 1) := by
  simp only [partF, View.withF, View.mk.injEq, true_and]
  funext j
  by_cases h1 : j = k
  · subst h1; simp
  · by_cases h2 : j < k
    · simp [h2, show j < k + 1 by omega]
    · simp [h1, h2, show ¬ j < k + 1 by omega]

theorem own_set {w W : World} {x : View} {A1 A2 E1 E2 F1 F2 : Option Addr} {c1 c2 e1 e2 f1 f2 B7 B8 : Nat} (h : RepV w x A1 c1 A2 c2) (hv : Has w W w.heap.size x A1 c1 A2 c2) (ha : Has w W B7 x E1 e1 E2 e2) (hb : Has w W B8 x F1 f1 F2 f2) (hB : Below w.heap.size w W)
    (l7 : w.heap.size < B7) (l8 : w.heap.size < B8) (n78 : B7 ≠ B8) (a17 : ApartV x E1 E2 B7) (a18 : ApartV x E1 E2 B8) (a37 : ApartV x F1 F2 B7) (a38 : ApartV x F1 F2 B8) (n : Int) :
    let W4 := (((W.setCell ⟨B7, 3, none⟩ (.int .i64 n)).setCell ⟨B8, 0, none⟩ (.int .i64 n)).setCell ⟨B8, 3, none⟩ (.int .i64 x.id)).setCell ⟨B8, 2, none⟩ (.slice none 0 0)
    Has w W4 w.heap.size x A1 c1 A2 c2 ∧ Has w W4 B7 (x.withPred n) E1 e1 E2 e2 ∧ Has w W4 B8 (partF x n 0) F1 f1 none 0 ∧ Below w.heap.size w W4 := by
  have o7 := ApartV.old h (Nat.le_of_lt l7)
  have o8 := ApartV.old h (Nat.le_of_lt l8)
  have n0 := Nat.ne_of_lt l7
  have n1 := Nat.ne_of_lt l8
  refine ⟨⟨(((hv.box.other (p := ⟨B7, 3, none⟩) n0 _).other (p := ⟨B8, 0, none⟩) n1 _).other (p := ⟨B8, 3, none⟩) n1 _).other (p := ⟨B8, 2, none⟩) n1 _, ((((hv.rep.setA (p := ⟨B7, 3, none⟩) _ o7).setA (p := ⟨B8, 0, none⟩) _ o8).setA (p := ⟨B8, 3, none⟩) _ o8).setA (p := ⟨B8, 2, none⟩) _ o8)⟩,
    ⟨(((ha.box.setPred n).other (p := ⟨B8, 0, none⟩) n78 _).other (p := ⟨B8, 3, none⟩) n78 _).other (p := ⟨B8, 2, none⟩) n78 _, ?_⟩,
    ⟨?_, ?_, Sl.nil _⟩,
    (((hB.setCell (p := ⟨B7, 3, none⟩) (Nat.le_of_lt l7) _).setCell (p := ⟨B8, 0, none⟩) (Nat.le_of_lt l8) _).setCell (p := ⟨B8, 3, none⟩) (Nat.le_of_lt l8) _).setCell (p := ⟨B8, 2, none⟩) (Nat.le_of_lt l8) _⟩
  · have := ((((ha.rep.setA (p := ⟨B7, 3, none⟩) (.int .i64 n) a17).setA (p := ⟨B8, 0, none⟩) (.int .i64 n) a18).setA (p := ⟨B8, 3, none⟩) (.int .i64 x.id) a18).setA (p := ⟨B8, 2, none⟩) (.slice none 0 0) a18)
    exact ⟨this.base, this.list⟩
  · have h1 := (((hb.box.other (p := ⟨B7, 3, none⟩) n78.symm (.int .i64 n)).setId n).setPred x.id).setList none 0 []
    have he : (((x.withId n).withPred x.id).withList []) = partF x n 0 := by simp [View.withId, View.withPred, View.withList, partF]
    rw [he] at h1
    exact h1
  · exact ((((hb.rep.setA (p := ⟨B7, 3, none⟩) (.int .i64 n) a37).setA (p := ⟨B8, 0, none⟩) (.int .i64 n) a38).setA (p := ⟨B8, 3, none⟩) (.int .i64 x.id) a38).setA (p := ⟨B8, 2, none⟩) (.slice none 0 0) a38).base

theorem ownlaw_cases {x : View} (hr : rightV x = true) {n : Int} (hn : isPl n = true) (hne : (n == x.id) = false) (k : Int) (P : Prop)
    (c1 : decide (x.pred < 0) = true → P)
    (c2 : decide (x.pred < 0) = false → ownsV (notifyV x [n]) k = false → P)
    (c3 : decide (x.pred < 0) = false → ownsV (notifyV x [n]) k = true → ownsV x k = true → P) : P := by
  cases e1 : decide (x.pred < 0) with
  | true => exact c1 e1
  | false =>
    cases e2 : ownsV (notifyV x [n]) k with
    | false => exact c2 e1 e2
    | true => exact c3 e1 e2 (told_owns hr hn hne k e1 e2)

set_option maxRecDepth 100000 in
set_option maxHeartbeats 8000000 in
theorem law_RectOwns_main (x : View) (A1 A2 : Option Addr) (c1 c2 : Nat) (n k : Int) (w : World) (h : RepV w x A1 c1 A2 c2) (hg : greatV x = false) (hr : rightV x = true) (h1 : decide (n < 0) = false) (h2 : decide (65536 ≤ n) = false) (h3 : (n == x.id) = false) :
    Calls Try.prog 5 #[x.v A1 c1 A2 c2, .int .i64 n, .int .i64 k] w fun e w' => e = .returned (.bool true) ∧ Below w.heap.size w w' := by
  have hn : isPl n = true := by simp at h1 h2; simp [isPl, h1, h2]
  unfold View.v
  go_enter Try.func5, Try.ntmps5
  go_upto_region 1 with (fail)
  refine name_world fun W0 hW0 => ?_
  have hT := one_start hW0
  clear hW0
  have hv0 : Has w W0 w.heap.size x A1 c1 A2 c2 := ⟨hT.box, h.below hT.b⟩
  have hB0 := hT.b
  clear hT
  go_upto_region 3 with (first | (refine wpList_load_view (t := 3) x A1 A2 c1 c2 w.heap.size ?hg ?hw ?hx ?_; (case hg => exact hv0.box); (case hw => rfl); (case hx => rfl)) | (go_at_call 16; refine (r15_Great x A1 A2 c1 c2 _).mono ?_; rintro e W1 ⟨he, hb1⟩; rw [hg] at he; subst he; have hv1 := hv0.below hb1; have hB1 := hB0.trans (hb1.mono hB0.size)) | (refine wpList_load_view (t := 3) x A1 A2 c1 c2 w.heap.size ?hg ?hw ?hx ?_; (case hg => exact hv1.box); (case hw => rfl); (case hx => rfl)) | (go_at_call 29; refine (r13_Right x A1 A2 c1 c2 _ hv1.rep.base hv1.rep.list).mono ?_; rintro e W2 ⟨he, hb2⟩; rw [hr] at he; subst he; have hv2 := hv1.below hb2; have hB2 := hB1.trans (hb2.mono hB1.size); have p0 := hv2.box.cells.1))
  clear p0 hv0 hB0 hb1 hv1 hB1 hb2
  go_cut [7, 8] from 11 (fun t7 t8 W => ∃ B7 B8 E1 e1 E2 e2 F1 f1 F2 f2, t7 = .pointer (some ⟨B7, 0, none⟩) ∧ t8 = .pointer (some ⟨B8, 0, none⟩) ∧ Hid (Has w W w.heap.size x A1 c1 A2 c2 ∧ Has w W B7 x E1 e1 E2 e2 ∧ Has w W B8 x F1 f1 F2 f2 ∧ Below w.heap.size w W ∧ w.heap.size < B7 ∧ w.heap.size < B8 ∧ B7 ≠ B8 ∧ ApartV x E1 E2 B7 ∧ ApartV x E1 E2 B8 ∧ ApartV x F1 F2 B7 ∧ ApartV x F1 F2 B8))
  case first =>
    refine region_held_named (S := (fun w' => Has w w' w.heap.size x A1 c1 A2 c2 ∧ Below w.heap.size w w')) (by kernel_rfl) ⟨hv2.below ((Below.refl _ _).drew), hB2.drew⟩ (fun W0 hHeld => ?_)
    clear hv2 hB2
    refine wpAnyH_take (i := 0) (oi := { dst := some 33, op := Op.load 25 (Operand.tmp 3), type := 25, pos := "law.go:63", after := #[], guard := none }) (v := .agg (x.cells A1 c1 A2 c2)) rfl (by kernel_rfl) (by kernel_rfl) (by kernel_rfl) (fun _ _ _ h => h) (yields_view (t := 3) x A1 A2 c1 c2 w.heap.size (by kernel_rfl) rfl (fun w h => h.1.box)) hHeld ?_
    simp only [Act.put, List.setIfInBounds_toArray, List.set_cons_zero, List.set_cons_succ]
    refine wpAnyH_take (i := 2) (oi := { dst := some 35, op := Op.load 25 (Operand.tmp 3), type := 25, pos := "law.go:63", after := #[], guard := none }) (v := .agg (x.cells A1 c1 A2 c2)) rfl (by kernel_rfl) (by kernel_rfl) (by kernel_rfl) (fun _ _ _ h => h) (yields_view (t := 3) x A1 A2 c1 c2 w.heap.size (by kernel_rfl) rfl (fun w h => h.1.box)) hHeld ?_
    simp only [Act.put, List.setIfInBounds_toArray, List.set_cons_zero, List.set_cons_succ]
    refine wpAnyH_ready (rs := [1, 4, 5]) (by kernel_rfl) (by simp) ?_
    refine AllReadyH.cons (o := { dst := some 34, op := Op.call { callee := Callee.value (Operand.func 31), args := #[Operand.tmp 33], argTypes := #[25] }, type := 25, pos := "law.go:63", after := #[{ on := 0, ground := Ground.data }], guard := none }) rfl (fun K hK => ?_) (AllReadyH.cons (o := { dst := some 7, op := Op.alloc 25, type := 0, pos := "law.go:63", after := #[], guard := none }) rfl (fun K hK => ?_) (AllReadyH.cons (o := { dst := some 8, op := Op.alloc 25, type := 0, pos := "law.go:63", after := #[], guard := none }) rfl (fun K hK => ?_) AllReadyH.nil))
    · go_simp
      go_wp2_with (go_at_call 31; refine (r13_Own x A1 A2 c1 c2 _ hHeld.1.rep).mono ?_; rintro e W1 ⟨E1, e1, E2, e2, rfl, r1, hb, q1, q2⟩)
      refine hK.out _ _ ⟨hHeld.1.below hb, hHeld.2.trans (hb.mono hHeld.2.size)⟩ (fun hHeld => ?_)
      clear hK K
      clear hb q1 q2
      refine wpAnyH_ready (rs := [3, 4, 5]) (by kernel_rfl) (by simp) ?_
      refine AllReadyH.cons (o := { dst := some 36, op := Op.call { callee := Callee.value (Operand.func 31), args := #[Operand.tmp 35], argTypes := #[25] }, type := 25, pos := "law.go:63", after := #[{ on := 2, ground := Ground.data }, { on := 1, ground := Ground.chain }], guard := none }) rfl (fun K hK => ?_) (AllReadyH.cons (o := { dst := some 7, op := Op.alloc 25, type := 0, pos := "law.go:63", after := #[], guard := none }) rfl (fun K hK => ?_) (AllReadyH.cons (o := { dst := some 8, op := Op.alloc 25, type := 0, pos := "law.go:63", after := #[], guard := none }) rfl (fun K hK => ?_) AllReadyH.nil))
      · go_simp
        go_wp2_with (go_at_call 31; refine (r13_Own x A1 A2 c1 c2 _ hHeld.1.rep).mono ?_; rintro e W2 ⟨F1, f1, F2, f2, rfl, r3, hb, q1, q2⟩)
        have r1 := r1.below hb
        refine hK.out _ _ ⟨hHeld.1.below hb, hHeld.2.trans (hb.mono hHeld.2.size)⟩ (fun hHeld => ?_)
        clear hK K
        clear hb q1 q2
        refine wpAnyH_ready (rs := [4, 5]) (by kernel_rfl) (by simp) ?_
        refine AllReadyH.cons (o := { dst := some 7, op := Op.alloc 25, type := 0, pos := "law.go:63", after := #[], guard := none }) rfl (fun K hK => ?_) (AllReadyH.cons (o := { dst := some 8, op := Op.alloc 25, type := 0, pos := "law.go:63", after := #[], guard := none }) rfl (fun K hK => ?_) AllReadyH.nil)
        · go_simp
          refine name_K fun W3 hV => ?_
          obtain ⟨b4, hb⟩ := alloc_step hV
          have l4 := hHeld.1.box.lt
          have a14 := ApartV.old r1 (Nat.le_refl _)
          have a34 := ApartV.old r3 (Nat.le_refl _)
          have r1 := r1.below hb
          have r3 := r3.below hb
          refine hK.out _ _ ⟨hHeld.1.below hb, hHeld.2.trans (hb.mono hHeld.2.size)⟩ (fun hHeld => ?_)
          clear hK K
          clear hV hb
          obtain ⟨B4, hBe⟩ : ∃ B, W2.heap.size = B := ⟨_, rfl⟩
          rw [hBe] at b4 l4 a14 a34 ⊢
          clear hBe
          refine wpAnyH_ready (rs := [5]) (by kernel_rfl) (by simp) ?_
          refine AllReadyH.cons (o := { dst := some 8, op := Op.alloc 25, type := 0, pos := "law.go:63", after := #[], guard := none }) rfl (fun K hK => ?_) AllReadyH.nil
          · go_simp
            refine name_K fun W4 hV => ?_
            obtain ⟨b5, hb⟩ := alloc_step hV
            have l5 := hHeld.1.box.lt
            have a15 := ApartV.old r1 (Nat.le_refl _)
            have a35 := ApartV.old r3 (Nat.le_refl _)
            have n45 := Nat.ne_of_lt b4.lt
            have r1 := r1.below hb
            have r3 := r3.below hb
            have b4 := b4.below hb b4.lt
            refine hK.out _ _ ⟨hHeld.1.below hb, hHeld.2.trans (hb.mono hHeld.2.size)⟩ (fun hHeld => ?_)
            clear hK K
            clear hV hb
            obtain ⟨B5, hBe⟩ : ∃ B, W3.heap.size = B := ⟨_, rfl⟩
            rw [hBe] at b5 l5 a15 a35 n45 ⊢
            clear hBe
            have n54 : B5 ≠ B4 := by omega
            have n45x : B4 ≠ B5 := by omega
            refine wpAnyH_ready (rs := [6]) (by kernel_rfl) (by simp) ?_
            refine AllReadyH.cons (o := { dst := none, op := Op.store 25 (Operand.tmp 7) (Operand.tmp 34), type := 0, pos := "law.go:63", after := #[{ on := 4, ground := Ground.data }, { on := 1, ground := Ground.data }, { on := 3, ground := Ground.chain }, { on := 0, ground := Ground.phase }, { on := 1, ground := Ground.phase }, { on := 2, ground := Ground.textOnly Departure.lateStores }, { on := 3, ground := Ground.textOnly Departure.lateStoresUnsure }, { on := 4, ground := Ground.phase }, { on := 5, ground := Ground.phase }], guard := none }) rfl (fun K hK => ?_) AllReadyH.nil
            rw [if_pos (by kernel_rfl)]
            refine wp_store_row 25 (.tmp 7) (.tmp 34) rfl B4 (x.cells E1 e1 E2 e2) rfl rfl 25 (View.zero.cells none 0 none 0) b4 (view_size _ _ _ _ _) rfl (View.oneCell _ _ _ _ _) ?_
            dsimp only [Act.put]
            refine name_K fun V hV => ?_
            have b4 : VBox V B4 x E1 e1 E2 e2 := by rw [← hV]; exact b4.setRow x E1 E2 e1 e2
            have b5 : VBox V B5 View.zero none 0 none 0 := by rw [← hV]; exact (heap_setRow _ _ _ _ n54).trans b5
            have r1 : RepV V x E1 e1 E2 e2 := by rw [← hV]; exact r1.rowA _ a14
            have r3 : RepV V x F1 f1 F2 f2 := by rw [← hV]; exact r3.rowA _ a34
            have hv : Has w V w.heap.size x A1 c1 A2 c2 := by rw [← hV]; exact ⟨(heap_setRow _ _ _ _ (Nat.ne_of_lt l4)).trans hHeld.1.box, hHeld.1.rep.rowA _ (ApartV.old h (Nat.le_of_lt l4))⟩
            have hB : Below w.heap.size w V := by rw [← hV]; exact below_setRow hHeld.2 (Nat.le_of_lt l4) _
            refine hK.out _ _ ⟨hv, hB⟩ (fun hHeld => ?_)
            clear hK K hV hv hB
            refine wpAnyH_ready (rs := [7]) (by kernel_rfl) (by simp) ?_
            refine AllReadyH.cons (o := { dst := none, op := Op.store 25 (Operand.tmp 8) (Operand.tmp 36), type := 0, pos := "law.go:63", after := #[{ on := 5, ground := Ground.data }, { on := 3, ground := Ground.data }, { on := 6, ground := Ground.chain }, { on := 0, ground := Ground.phase }, { on := 1, ground := Ground.phase }, { on := 2, ground := Ground.phase }, { on := 3, ground := Ground.phase }, { on := 4, ground := Ground.phase }, { on := 5, ground := Ground.phase }, { on := 6, ground := Ground.phase }], guard := none }) rfl (fun K hK => ?_) AllReadyH.nil
            rw [if_pos (by kernel_rfl)]
            refine wp_store_row 25 (.tmp 8) (.tmp 36) rfl B5 (x.cells F1 f1 F2 f2) rfl rfl 25 (View.zero.cells none 0 none 0) b5 (view_size _ _ _ _ _) rfl (View.oneCell _ _ _ _ _) ?_
            dsimp only [Act.put]
            refine name_K fun V hV => ?_
            have b5 : VBox V B5 x F1 f1 F2 f2 := by rw [← hV]; exact b5.setRow x F1 F2 f1 f2
            have b4 : VBox V B4 x E1 e1 E2 e2 := by rw [← hV]; exact (heap_setRow _ _ _ _ n45x).trans b4
            have r1 : RepV V x E1 e1 E2 e2 := by rw [← hV]; exact r1.rowA _ a15
            have r3 : RepV V x F1 f1 F2 f2 := by rw [← hV]; exact r3.rowA _ a35
            have hv : Has w V w.heap.size x A1 c1 A2 c2 := by rw [← hV]; exact ⟨(heap_setRow _ _ _ _ (Nat.ne_of_lt l5)).trans hHeld.1.box, hHeld.1.rep.rowA _ (ApartV.old h (Nat.le_of_lt l5))⟩
            have hB : Below w.heap.size w V := by rw [← hV]; exact below_setRow hHeld.2 (Nat.le_of_lt l5) _
            refine hK.out _ _ ⟨hv, hB⟩ (fun hHeld => ?_)
            clear hK K hV hv hB
            refine wpAnyH_done (by kernel_rfl) ?_ _
            go_wp2
            go_meet
            case rel => exact ⟨_, _, E1, e1, E2, e2, F1, f1, F2, f2, rfl, rfl, Lib.hid ⟨hHeld.1, ⟨b4, r1⟩, ⟨b5, r3⟩, hHeld.2, l4, l5, n45x, a14, a15, a34, a35⟩⟩
        · go_simp
          refine name_K fun W3 hV => ?_
          obtain ⟨b5, hb⟩ := alloc_step hV
          have l5 := hHeld.1.box.lt
          have a15 := ApartV.old r1 (Nat.le_refl _)
          have a35 := ApartV.old r3 (Nat.le_refl _)
          have r1 := r1.below hb
          have r3 := r3.below hb
          refine hK.out _ _ ⟨hHeld.1.below hb, hHeld.2.trans (hb.mono hHeld.2.size)⟩ (fun hHeld => ?_)
          clear hK K
          clear hV hb
          obtain ⟨B5, hBe⟩ : ∃ B, W2.heap.size = B := ⟨_, rfl⟩
          rw [hBe] at b5 l5 a15 a35 ⊢
          clear hBe
          refine wpAnyH_ready (rs := [4]) (by kernel_rfl) (by simp) ?_
          refine AllReadyH.cons (o := { dst := some 7, op := Op.alloc 25, type := 0, pos := "law.go:63", after := #[], guard := none }) rfl (fun K hK => ?_) AllReadyH.nil
          · go_simp
            refine name_K fun W4 hV => ?_
            obtain ⟨b4, hb⟩ := alloc_step hV
            have l4 := hHeld.1.box.lt
            have a14 := ApartV.old r1 (Nat.le_refl _)
            have a34 := ApartV.old r3 (Nat.le_refl _)
            have n45 := Nat.ne_of_lt b5.lt
            have r1 := r1.below hb
            have r3 := r3.below hb
            have b5 := b5.below hb b5.lt
            refine hK.out _ _ ⟨hHeld.1.below hb, hHeld.2.trans (hb.mono hHeld.2.size)⟩ (fun hHeld => ?_)
            clear hK K
            clear hV hb
            obtain ⟨B4, hBe⟩ : ∃ B, W3.heap.size = B := ⟨_, rfl⟩
            rw [hBe] at b4 l4 a14 a34 n45 ⊢
            clear hBe
            have n54 : B5 ≠ B4 := by omega
            have n45x : B4 ≠ B5 := by omega
            refine wpAnyH_ready (rs := [6]) (by kernel_rfl) (by simp) ?_
            refine AllReadyH.cons (o := { dst := none, op := Op.store 25 (Operand.tmp 7) (Operand.tmp 34), type := 0, pos := "law.go:63", after := #[{ on := 4, ground := Ground.data }, { on := 1, ground := Ground.data }, { on := 3, ground := Ground.chain }, { on := 0, ground := Ground.phase }, { on := 1, ground := Ground.phase }, { on := 2, ground := Ground.textOnly Departure.lateStores }, { on := 3, ground := Ground.textOnly Departure.lateStoresUnsure }, { on := 4, ground := Ground.phase }, { on := 5, ground := Ground.phase }], guard := none }) rfl (fun K hK => ?_) AllReadyH.nil
            rw [if_pos (by kernel_rfl)]
            refine wp_store_row 25 (.tmp 7) (.tmp 34) rfl B4 (x.cells E1 e1 E2 e2) rfl rfl 25 (View.zero.cells none 0 none 0) b4 (view_size _ _ _ _ _) rfl (View.oneCell _ _ _ _ _) ?_
            dsimp only [Act.put]
            refine name_K fun V hV => ?_
            have b4 : VBox V B4 x E1 e1 E2 e2 := by rw [← hV]; exact b4.setRow x E1 E2 e1 e2
            have b5 : VBox V B5 View.zero none 0 none 0 := by rw [← hV]; exact (heap_setRow _ _ _ _ n54).trans b5
            have r1 : RepV V x E1 e1 E2 e2 := by rw [← hV]; exact r1.rowA _ a14
            have r3 : RepV V x F1 f1 F2 f2 := by rw [← hV]; exact r3.rowA _ a34
            have hv : Has w V w.heap.size x A1 c1 A2 c2 := by rw [← hV]; exact ⟨(heap_setRow _ _ _ _ (Nat.ne_of_lt l4)).trans hHeld.1.box, hHeld.1.rep.rowA _ (ApartV.old h (Nat.le_of_lt l4))⟩
            have hB : Below w.heap.size w V := by rw [← hV]; exact below_setRow hHeld.2 (Nat.le_of_lt l4) _
            refine hK.out _ _ ⟨hv, hB⟩ (fun hHeld => ?_)
            clear hK K hV hv hB
            refine wpAnyH_ready (rs := [7]) (by kernel_rfl) (by simp) ?_
            refine AllReadyH.cons (o := { dst := none, op := Op.store 25 (Operand.tmp 8) (Operand.tmp 36), type := 0, pos := "law.go:63", after := #[{ on := 5, ground := Ground.data }, { on := 3, ground := Ground.data }, { on := 6, ground := Ground.chain }, { on := 0, ground := Ground.phase }, { on := 1, ground := Ground.phase }, { on := 2, ground := Ground.phase }, { on := 3, ground := Ground.phase }, { on := 4, ground := Ground.phase }, { on := 5, ground := Ground.phase }, { on := 6, ground := Ground.phase }], guard := none }) rfl (fun K hK => ?_) AllReadyH.nil
            rw [if_pos (by kernel_rfl)]
            refine wp_store_row 25 (.tmp 8) (.tmp 36) rfl B5 (x.cells F1 f1 F2 f2) rfl rfl 25 (View.zero.cells none 0 none 0) b5 (view_size _ _ _ _ _) rfl (View.oneCell _ _ _ _ _) ?_
            dsimp only [Act.put]
            refine name_K fun V hV => ?_
            have b5 : VBox V B5 x F1 f1 F2 f2 := by rw [← hV]; exact b5.setRow x F1 F2 f1 f2
            have b4 : VBox V B4 x E1 e1 E2 e2 := by rw [← hV]; exact (heap_setRow _ _ _ _ n45x).trans b4
            have r1 : RepV V x E1 e1 E2 e2 := by rw [← hV]; exact r1.rowA _ a15
            have r3 : RepV V x F1 f1 F2 f2 := by rw [← hV]; exact r3.rowA _ a35
            have hv : Has w V w.heap.size x A1 c1 A2 c2 := by rw [← hV]; exact ⟨(heap_setRow _ _ _ _ (Nat.ne_of_lt l5)).trans hHeld.1.box, hHeld.1.rep.rowA _ (ApartV.old h (Nat.le_of_lt l5))⟩
            have hB : Below w.heap.size w V := by rw [← hV]; exact below_setRow hHeld.2 (Nat.le_of_lt l5) _
            refine hK.out _ _ ⟨hv, hB⟩ (fun hHeld => ?_)
            clear hK K hV hv hB
            refine wpAnyH_done (by kernel_rfl) ?_ _
            go_wp2
            go_meet
            case rel => exact ⟨_, _, E1, e1, E2, e2, F1, f1, F2, f2, rfl, rfl, Lib.hid ⟨hHeld.1, ⟨b4, r1⟩, ⟨b5, r3⟩, hHeld.2, l4, l5, n45x, a14, a15, a34, a35⟩⟩
      · go_simp
        refine name_K fun W2 hV => ?_
        obtain ⟨b4, hb⟩ := alloc_step hV
        have l4 := hHeld.1.box.lt
        have a14 := ApartV.old r1 (Nat.le_refl _)
        have r1 := r1.below hb
        refine hK.out _ _ ⟨hHeld.1.below hb, hHeld.2.trans (hb.mono hHeld.2.size)⟩ (fun hHeld => ?_)
        clear hK K
        clear hV hb
        obtain ⟨B4, hBe⟩ : ∃ B, W1.heap.size = B := ⟨_, rfl⟩
        rw [hBe] at b4 l4 a14 ⊢
        clear hBe
        refine wpAnyH_ready (rs := [3, 5]) (by kernel_rfl) (by simp) ?_
        refine AllReadyH.cons (o := { dst := some 36, op := Op.call { callee := Callee.value (Operand.func 31), args := #[Operand.tmp 35], argTypes := #[25] }, type := 25, pos := "law.go:63", after := #[{ on := 2, ground := Ground.data }, { on := 1, ground := Ground.chain }], guard := none }) rfl (fun K hK => ?_) (AllReadyH.cons (o := { dst := some 8, op := Op.alloc 25, type := 0, pos := "law.go:63", after := #[], guard := none }) rfl (fun K hK => ?_) AllReadyH.nil)
        · go_simp
          go_wp2_with (go_at_call 31; refine (r13_Own x A1 A2 c1 c2 _ hHeld.1.rep).mono ?_; rintro e W3 ⟨F1, f1, F2, f2, rfl, r3, hb, q1, q2⟩)
          have a34 : ApartV x F1 F2 B4 := ApartV.fresh x q1 q2 b4.lt
          have r1 := r1.below hb
          have b4 := b4.below hb b4.lt
          refine hK.out _ _ ⟨hHeld.1.below hb, hHeld.2.trans (hb.mono hHeld.2.size)⟩ (fun hHeld => ?_)
          clear hK K
          clear hb q1 q2
          refine wpAnyH_ready (rs := [5]) (by kernel_rfl) (by simp) ?_
          refine AllReadyH.cons (o := { dst := some 8, op := Op.alloc 25, type := 0, pos := "law.go:63", after := #[], guard := none }) rfl (fun K hK => ?_) AllReadyH.nil
          · go_simp
            refine name_K fun W4 hV => ?_
            obtain ⟨b5, hb⟩ := alloc_step hV
            have l5 := hHeld.1.box.lt
            have a15 := ApartV.old r1 (Nat.le_refl _)
            have a35 := ApartV.old r3 (Nat.le_refl _)
            have n45 := Nat.ne_of_lt b4.lt
            have r1 := r1.below hb
            have r3 := r3.below hb
            have b4 := b4.below hb b4.lt
            refine hK.out _ _ ⟨hHeld.1.below hb, hHeld.2.trans (hb.mono hHeld.2.size)⟩ (fun hHeld => ?_)
            clear hK K
            clear hV hb
            obtain ⟨B5, hBe⟩ : ∃ B, W3.heap.size = B := ⟨_, rfl⟩
            rw [hBe] at b5 l5 a15 a35 n45 ⊢
            clear hBe
            have n54 : B5 ≠ B4 := by omega
            have n45x : B4 ≠ B5 := by omega
            refine wpAnyH_ready (rs := [6]) (by kernel_rfl) (by simp) ?_
            refine AllReadyH.cons (o := { dst := none, op := Op.store 25 (Operand.tmp 7) (Operand.tmp 34), type := 0, pos := "law.go:63", after := #[{ on := 4, ground := Ground.data }, { on := 1, ground := Ground.data }, { on := 3, ground := Ground.chain }, { on := 0, ground := Ground.phase }, { on := 1, ground := Ground.phase }, { on := 2, ground := Ground.textOnly Departure.lateStores }, { on := 3, ground := Ground.textOnly Departure.lateStoresUnsure }, { on := 4, ground := Ground.phase }, { on := 5, ground := Ground.phase }], guard := none }) rfl (fun K hK => ?_) AllReadyH.nil
            rw [if_pos (by kernel_rfl)]
            refine wp_store_row 25 (.tmp 7) (.tmp 34) rfl B4 (x.cells E1 e1 E2 e2) rfl rfl 25 (View.zero.cells none 0 none 0) b4 (view_size _ _ _ _ _) rfl (View.oneCell _ _ _ _ _) ?_
            dsimp only [Act.put]
            refine name_K fun V hV => ?_
            have b4 : VBox V B4 x E1 e1 E2 e2 := by rw [← hV]; exact b4.setRow x E1 E2 e1 e2
            have b5 : VBox V B5 View.zero none 0 none 0 := by rw [← hV]; exact (heap_setRow _ _ _ _ n54).trans b5
            have r1 : RepV V x E1 e1 E2 e2 := by rw [← hV]; exact r1.rowA _ a14
            have r3 : RepV V x F1 f1 F2 f2 := by rw [← hV]; exact r3.rowA _ a34
            have hv : Has w V w.heap.size x A1 c1 A2 c2 := by rw [← hV]; exact ⟨(heap_setRow _ _ _ _ (Nat.ne_of_lt l4)).trans hHeld.1.box, hHeld.1.rep.rowA _ (ApartV.old h (Nat.le_of_lt l4))⟩
            have hB : Below w.heap.size w V := by rw [← hV]; exact below_setRow hHeld.2 (Nat.le_of_lt l4) _
            refine hK.out _ _ ⟨hv, hB⟩ (fun hHeld => ?_)
            clear hK K hV hv hB
            refine wpAnyH_ready (rs := [7]) (by kernel_rfl) (by simp) ?_
            refine AllReadyH.cons (o := { dst := none, op := Op.store 25 (Operand.tmp 8) (Operand.tmp 36), type := 0, pos := "law.go:63", after := #[{ on := 5, ground := Ground.data }, { on := 3, ground := Ground.data }, { on := 6, ground := Ground.chain }, { on := 0, ground := Ground.phase }, { on := 1, ground := Ground.phase }, { on := 2, ground := Ground.phase }, { on := 3, ground := Ground.phase }, { on := 4, ground := Ground.phase }, { on := 5, ground := Ground.phase }, { on := 6, ground := Ground.phase }], guard := none }) rfl (fun K hK => ?_) AllReadyH.nil
            rw [if_pos (by kernel_rfl)]
            refine wp_store_row 25 (.tmp 8) (.tmp 36) rfl B5 (x.cells F1 f1 F2 f2) rfl rfl 25 (View.zero.cells none 0 none 0) b5 (view_size _ _ _ _ _) rfl (View.oneCell _ _ _ _ _) ?_
            dsimp only [Act.put]
            refine name_K fun V hV => ?_
            have b5 : VBox V B5 x F1 f1 F2 f2 := by rw [← hV]; exact b5.setRow x F1 F2 f1 f2
            have b4 : VBox V B4 x E1 e1 E2 e2 := by rw [← hV]; exact (heap_setRow _ _ _ _ n45x).trans b4
            have r1 : RepV V x E1 e1 E2 e2 := by rw [← hV]; exact r1.rowA _ a15
            have r3 : RepV V x F1 f1 F2 f2 := by rw [← hV]; exact r3.rowA _ a35
            have hv : Has w V w.heap.size x A1 c1 A2 c2 := by rw [← hV]; exact ⟨(heap_setRow _ _ _ _ (Nat.ne_of_lt l5)).trans hHeld.1.box, hHeld.1.rep.rowA _ (ApartV.old h (Nat.le_of_lt l5))⟩
            have hB : Below w.heap.size w V := by rw [← hV]; exact below_setRow hHeld.2 (Nat.le_of_lt l5) _
            refine hK.out _ _ ⟨hv, hB⟩ (fun hHeld => ?_)
            clear hK K hV hv hB
            refine wpAnyH_done (by kernel_rfl) ?_ _
            go_wp2
            go_meet
            case rel => exact ⟨_, _, E1, e1, E2, e2, F1, f1, F2, f2, rfl, rfl, Lib.hid ⟨hHeld.1, ⟨b4, r1⟩, ⟨b5, r3⟩, hHeld.2, l4, l5, n45x, a14, a15, a34, a35⟩⟩
        · go_simp
          refine name_K fun W3 hV => ?_
          obtain ⟨b5, hb⟩ := alloc_step hV
          have l5 := hHeld.1.box.lt
          have a15 := ApartV.old r1 (Nat.le_refl _)
          have n45 := Nat.ne_of_lt b4.lt
          have r1 := r1.below hb
          have b4 := b4.below hb b4.lt
          refine hK.out _ _ ⟨hHeld.1.below hb, hHeld.2.trans (hb.mono hHeld.2.size)⟩ (fun hHeld => ?_)
          clear hK K
          clear hV hb
          obtain ⟨B5, hBe⟩ : ∃ B, W2.heap.size = B := ⟨_, rfl⟩
          rw [hBe] at b5 l5 a15 n45 ⊢
          clear hBe
          refine wpAnyH_ready (rs := [3]) (by kernel_rfl) (by simp) ?_
          refine AllReadyH.cons (o := { dst := some 36, op := Op.call { callee := Callee.value (Operand.func 31), args := #[Operand.tmp 35], argTypes := #[25] }, type := 25, pos := "law.go:63", after := #[{ on := 2, ground := Ground.data }, { on := 1, ground := Ground.chain }], guard := none }) rfl (fun K hK => ?_) AllReadyH.nil
          · go_simp
            go_wp2_with (go_at_call 31; refine (r13_Own x A1 A2 c1 c2 _ hHeld.1.rep).mono ?_; rintro e W4 ⟨F1, f1, F2, f2, rfl, r3, hb, q1, q2⟩)
            have a34 : ApartV x F1 F2 B4 := ApartV.fresh x q1 q2 b4.lt
            have a35 : ApartV x F1 F2 B5 := ApartV.fresh x q1 q2 b5.lt
            have r1 := r1.below hb
            have b4 := b4.below hb b4.lt
            have b5 := b5.below hb b5.lt
            refine hK.out _ _ ⟨hHeld.1.below hb, hHeld.2.trans (hb.mono hHeld.2.size)⟩ (fun hHeld => ?_)
            clear hK K
            clear hb q1 q2
            have n54 : B5 ≠ B4 := by omega
            have n45x : B4 ≠ B5 := by omega
            refine wpAnyH_ready (rs := [6]) (by kernel_rfl) (by simp) ?_
            refine AllReadyH.cons (o := { dst := none, op := Op.store 25 (Operand.tmp 7) (Operand.tmp 34), type := 0, pos := "law.go:63", after := #[{ on := 4, ground := Ground.data }, { on := 1, ground := Ground.data }, { on := 3, ground := Ground.chain }, { on := 0, ground := Ground.phase }, { on := 1, ground := Ground.phase }, { on := 2, ground := Ground.textOnly Departure.lateStores }, { on := 3, ground := Ground.textOnly Departure.lateStoresUnsure }, { on := 4, ground := Ground.phase }, { on := 5, ground := Ground.phase }], guard := none }) rfl (fun K hK => ?_) AllReadyH.nil
            rw [if_pos (by kernel_rfl)]
            refine wp_store_row 25 (.tmp 7) (.tmp 34) rfl B4 (x.cells E1 e1 E2 e2) rfl rfl 25 (View.zero.cells none 0 none 0) b4 (view_size _ _ _ _ _) rfl (View.oneCell _ _ _ _ _) ?_
            dsimp only [Act.put]
            refine name_K fun V hV => ?_
            have b4 : VBox V B4 x E1 e1 E2 e2 := by rw [← hV]; exact b4.setRow x E1 E2 e1 e2
            have b5 : VBox V B5 View.zero none 0 none 0 := by rw [← hV]; exact (heap_setRow _ _ _ _ n54).trans b5
            have r1 : RepV V x E1 e1 E2 e2 := by rw [← hV]; exact r1.rowA _ a14
            have r3 : RepV V x F1 f1 F2 f2 := by rw [← hV]; exact r3.rowA _ a34
            have hv : Has w V w.heap.size x A1 c1 A2 c2 := by rw [← hV]; exact ⟨(heap_setRow _ _ _ _ (Nat.ne_of_lt l4)).trans hHeld.1.box, hHeld.1.rep.rowA _ (ApartV.old h (Nat.le_of_lt l4))⟩
            have hB : Below w.heap.size w V := by rw [← hV]; exact below_setRow hHeld.2 (Nat.le_of_lt l4) _
            refine hK.out _ _ ⟨hv, hB⟩ (fun hHeld => ?_)
            clear hK K hV hv hB
            refine wpAnyH_ready (rs := [7]) (by kernel_rfl) (by simp) ?_
            refine AllReadyH.cons (o := { dst := none, op := Op.store 25 (Operand.tmp 8) (Operand.tmp 36), type := 0, pos := "law.go:63", after := #[{ on := 5, ground := Ground.data }, { on := 3, ground := Ground.data }, { on := 6, ground := Ground.chain }, { on := 0, ground := Ground.phase }, { on := 1, ground := Ground.phase }, { on := 2, ground := Ground.phase }, { on := 3, ground := Ground.phase }, { on := 4, ground := Ground.phase }, { on := 5, ground := Ground.phase }, { on := 6, ground := Ground.phase }], guard := none }) rfl (fun K hK => ?_) AllReadyH.nil
            rw [if_pos (by kernel_rfl)]
            refine wp_store_row 25 (.tmp 8) (.tmp 36) rfl B5 (x.cells F1 f1 F2 f2) rfl rfl 25 (View.zero.cells none 0 none 0) b5 (view_size _ _ _ _ _) rfl (View.oneCell _ _ _ _ _) ?_
            dsimp only [Act.put]
            refine name_K fun V hV => ?_
            have b5 : VBox V B5 x F1 f1 F2 f2 := by rw [← hV]; exact b5.setRow x F1 F2 f1 f2
            have b4 : VBox V B4 x E1 e1 E2 e2 := by rw [← hV]; exact (heap_setRow _ _ _ _ n45x).trans b4
            have r1 : RepV V x E1 e1 E2 e2 := by rw [← hV]; exact r1.rowA _ a15
            have r3 : RepV V x F1 f1 F2 f2 := by rw [← hV]; exact r3.rowA _ a35
            have hv : Has w V w.heap.size x A1 c1 A2 c2 := by rw [← hV]; exact ⟨(heap_setRow _ _ _ _ (Nat.ne_of_lt l5)).trans hHeld.1.box, hHeld.1.rep.rowA _ (ApartV.old h (Nat.le_of_lt l5))⟩
            have hB : Below w.heap.size w V := by rw [← hV]; exact below_setRow hHeld.2 (Nat.le_of_lt l5) _
            refine hK.out _ _ ⟨hv, hB⟩ (fun hHeld => ?_)
            clear hK K hV hv hB
            refine wpAnyH_done (by kernel_rfl) ?_ _
            go_wp2
            go_meet
            case rel => exact ⟨_, _, E1, e1, E2, e2, F1, f1, F2, f2, rfl, rfl, Lib.hid ⟨hHeld.1, ⟨b4, r1⟩, ⟨b5, r3⟩, hHeld.2, l4, l5, n45x, a14, a15, a34, a35⟩⟩
      · go_simp
        refine name_K fun W2 hV => ?_
        obtain ⟨b5, hb⟩ := alloc_step hV
        have l5 := hHeld.1.box.lt
        have a15 := ApartV.old r1 (Nat.le_refl _)
        have r1 := r1.below hb
        refine hK.out _ _ ⟨hHeld.1.below hb, hHeld.2.trans (hb.mono hHeld.2.size)⟩ (fun hHeld => ?_)
        clear hK K
        clear hV hb
        obtain ⟨B5, hBe⟩ : ∃ B, W1.heap.size = B := ⟨_, rfl⟩
        rw [hBe] at b5 l5 a15 ⊢
        clear hBe
        refine wpAnyH_ready (rs := [3, 4]) (by kernel_rfl) (by simp) ?_
        refine AllReadyH.cons (o := { dst := some 36, op := Op.call { callee := Callee.value (Operand.func 31), args := #[Operand.tmp 35], argTypes := #[25] }, type := 25, pos := "law.go:63", after := #[{ on := 2, ground := Ground.data }, { on := 1, ground := Ground.chain }], guard := none }) rfl (fun K hK => ?_) (AllReadyH.cons (o := { dst := some 7, op := Op.alloc 25, type := 0, pos := "law.go:63", after := #[], guard := none }) rfl (fun K hK => ?_) AllReadyH.nil)
        · go_simp
          go_wp2_with (go_at_call 31; refine (r13_Own x A1 A2 c1 c2 _ hHeld.1.rep).mono ?_; rintro e W3 ⟨F1, f1, F2, f2, rfl, r3, hb, q1, q2⟩)
          have a35 : ApartV x F1 F2 B5 := ApartV.fresh x q1 q2 b5.lt
          have r1 := r1.below hb
          have b5 := b5.below hb b5.lt
          refine hK.out _ _ ⟨hHeld.1.below hb, hHeld.2.trans (hb.mono hHeld.2.size)⟩ (fun hHeld => ?_)
          clear hK K
          clear hb q1 q2
          refine wpAnyH_ready (rs := [4]) (by kernel_rfl) (by simp) ?_
          refine AllReadyH.cons (o := { dst := some 7, op := Op.alloc 25, type := 0, pos := "law.go:63", after := #[], guard := none }) rfl (fun K hK => ?_) AllReadyH.nil
          · go_simp
            refine name_K fun W4 hV => ?_
            obtain ⟨b4, hb⟩ := alloc_step hV
            have l4 := hHeld.1.box.lt
            have a14 := ApartV.old r1 (Nat.le_refl _)
            have a34 := ApartV.old r3 (Nat.le_refl _)
            have n45 := Nat.ne_of_lt b5.lt
            have r1 := r1.below hb
            have r3 := r3.below hb
            have b5 := b5.below hb b5.lt
            refine hK.out _ _ ⟨hHeld.1.below hb, hHeld.2.trans (hb.mono hHeld.2.size)⟩ (fun hHeld => ?_)
            clear hK K
            clear hV hb
            obtain ⟨B4, hBe⟩ : ∃ B, W3.heap.size = B := ⟨_, rfl⟩
            rw [hBe] at b4 l4 a14 a34 n45 ⊢
            clear hBe
            have n54 : B5 ≠ B4 := by omega
            have n45x : B4 ≠ B5 := by omega
            refine wpAnyH_ready (rs := [6]) (by kernel_rfl) (by simp) ?_
            refine AllReadyH.cons (o := { dst := none, op := Op.store 25 (Operand.tmp 7) (Operand.tmp 34), type := 0, pos := "law.go:63", after := #[{ on := 4, ground := Ground.data }, { on := 1, ground := Ground.data }, { on := 3, ground := Ground.chain }, { on := 0, ground := Ground.phase }, { on := 1, ground := Ground.phase }, { on := 2, ground := Ground.textOnly Departure.lateStores }, { on := 3, ground := Ground.textOnly Departure.lateStoresUnsure }, { on := 4, ground := Ground.phase }, { on := 5, ground := Ground.phase }], guard := none }) rfl (fun K hK => ?_) AllReadyH.nil
            rw [if_pos (by kernel_rfl)]
            refine wp_store_row 25 (.tmp 7) (.tmp 34) rfl B4 (x.cells E1 e1 E2 e2) rfl rfl 25 (View.zero.cells none 0 none 0) b4 (view_size _ _ _ _ _) rfl (View.oneCell _ _ _ _ _) ?_
            dsimp only [Act.put]
            refine name_K fun V hV => ?_
            have b4 : VBox V B4 x E1 e1 E2 e2 := by rw [← hV]; exact b4.setRow x E1 E2 e1 e2
            have b5 : VBox V B5 View.zero none 0 none 0 := by rw [← hV]; exact (heap_setRow _ _ _ _ n54).trans b5
            have r1 : RepV V x E1 e1 E2 e2 := by rw [← hV]; exact r1.rowA _ a14
            have r3 : RepV V x F1 f1 F2 f2 := by rw [← hV]; exact r3.rowA _ a34
            have hv : Has w V w.heap.size x A1 c1 A2 c2 := by rw [← hV]; exact ⟨(heap_setRow _ _ _ _ (Nat.ne_of_lt l4)).trans hHeld.1.box, hHeld.1.rep.rowA _ (ApartV.old h (Nat.le_of_lt l4))⟩
            have hB : Below w.heap.size w V := by rw [← hV]; exact below_setRow hHeld.2 (Nat.le_of_lt l4) _
            refine hK.out _ _ ⟨hv, hB⟩ (fun hHeld => ?_)
            clear hK K hV hv hB
            refine wpAnyH_ready (rs := [7]) (by kernel_rfl) (by simp) ?_
            refine AllReadyH.cons (o := { dst := none, op := Op.store 25 (Operand.tmp 8) (Operand.tmp 36), type := 0, pos := "law.go:63", after := #[{ on := 5, ground := Ground.data }, { on := 3, ground := Ground.data }, { on := 6, ground := Ground.chain }, { on := 0, ground := Ground.phase }, { on := 1, ground := Ground.phase }, { on := 2, ground := Ground.phase }, { on := 3, ground := Ground.phase }, { on := 4, ground := Ground.phase }, { on := 5, ground := Ground.phase }, { on := 6, ground := Ground.phase }], guard := none }) rfl (fun K hK => ?_) AllReadyH.nil
            rw [if_pos (by kernel_rfl)]
            refine wp_store_row 25 (.tmp 8) (.tmp 36) rfl B5 (x.cells F1 f1 F2 f2) rfl rfl 25 (View.zero.cells none 0 none 0) b5 (view_size _ _ _ _ _) rfl (View.oneCell _ _ _ _ _) ?_
            dsimp only [Act.put]
            refine name_K fun V hV => ?_
            have b5 : VBox V B5 x F1 f1 F2 f2 := by rw [← hV]; exact b5.setRow x F1 F2 f1 f2
            have b4 : VBox V B4 x E1 e1 E2 e2 := by rw [← hV]; exact (heap_setRow _ _ _ _ n45x).trans b4
            have r1 : RepV V x E1 e1 E2 e2 := by rw [← hV]; exact r1.rowA _ a15
            have r3 : RepV V x F1 f1 F2 f2 := by rw [← hV]; exact r3.rowA _ a35
            have hv : Has w V w.heap.size x A1 c1 A2 c2 := by rw [← hV]; exact ⟨(heap_setRow _ _ _ _ (Nat.ne_of_lt l5)).trans hHeld.1.box, hHeld.1.rep.rowA _ (ApartV.old h (Nat.le_of_lt l5))⟩
            have hB : Below w.heap.size w V := by rw [← hV]; exact below_setRow hHeld.2 (Nat.le_of_lt l5) _
            refine hK.out _ _ ⟨hv, hB⟩ (fun hHeld => ?_)
            clear hK K hV hv hB
            refine wpAnyH_done (by kernel_rfl) ?_ _
            go_wp2
            go_meet
            case rel => exact ⟨_, _, E1, e1, E2, e2, F1, f1, F2, f2, rfl, rfl, Lib.hid ⟨hHeld.1, ⟨b4, r1⟩, ⟨b5, r3⟩, hHeld.2, l4, l5, n45x, a14, a15, a34, a35⟩⟩
        · go_simp
          refine name_K fun W3 hV => ?_
          obtain ⟨b4, hb⟩ := alloc_step hV
          have l4 := hHeld.1.box.lt
          have a14 := ApartV.old r1 (Nat.le_refl _)
          have n45 := Nat.ne_of_lt b5.lt
          have r1 := r1.below hb
          have b5 := b5.below hb b5.lt
          refine hK.out _ _ ⟨hHeld.1.below hb, hHeld.2.trans (hb.mono hHeld.2.size)⟩ (fun hHeld => ?_)
          clear hK K
          clear hV hb
          obtain ⟨B4, hBe⟩ : ∃ B, W2.heap.size = B := ⟨_, rfl⟩
          rw [hBe] at b4 l4 a14 n45 ⊢
          clear hBe
          refine wpAnyH_ready (rs := [3]) (by kernel_rfl) (by simp) ?_
          refine AllReadyH.cons (o := { dst := some 36, op := Op.call { callee := Callee.value (Operand.func 31), args := #[Operand.tmp 35], argTypes := #[25] }, type := 25, pos := "law.go:63", after := #[{ on := 2, ground := Ground.data }, { on := 1, ground := Ground.chain }], guard := none }) rfl (fun K hK => ?_) AllReadyH.nil
          · go_simp
            go_wp2_with (go_at_call 31; refine (r13_Own x A1 A2 c1 c2 _ hHeld.1.rep).mono ?_; rintro e W4 ⟨F1, f1, F2, f2, rfl, r3, hb, q1, q2⟩)
            have a34 : ApartV x F1 F2 B4 := ApartV.fresh x q1 q2 b4.lt
            have a35 : ApartV x F1 F2 B5 := ApartV.fresh x q1 q2 b5.lt
            have r1 := r1.below hb
            have b4 := b4.below hb b4.lt
            have b5 := b5.below hb b5.lt
            refine hK.out _ _ ⟨hHeld.1.below hb, hHeld.2.trans (hb.mono hHeld.2.size)⟩ (fun hHeld => ?_)
            clear hK K
            clear hb q1 q2
            have n54 : B5 ≠ B4 := by omega
            have n45x : B4 ≠ B5 := by omega
            refine wpAnyH_ready (rs := [6]) (by kernel_rfl) (by simp) ?_
            refine AllReadyH.cons (o := { dst := none, op := Op.store 25 (Operand.tmp 7) (Operand.tmp 34), type := 0, pos := "law.go:63", after := #[{ on := 4, ground := Ground.data }, { on := 1, ground := Ground.data }, { on := 3, ground := Ground.chain }, { on := 0, ground := Ground.phase }, { on := 1, ground := Ground.phase }, { on := 2, ground := Ground.textOnly Departure.lateStores }, { on := 3, ground := Ground.textOnly Departure.lateStoresUnsure }, { on := 4, ground := Ground.phase }, { on := 5, ground := Ground.phase }], guard := none }) rfl (fun K hK => ?_) AllReadyH.nil
            rw [if_pos (by kernel_rfl)]
            refine wp_store_row 25 (.tmp 7) (.tmp 34) rfl B4 (x.cells E1 e1 E2 e2) rfl rfl 25 (View.zero.cells none 0 none 0) b4 (view_size _ _ _ _ _) rfl (View.oneCell _ _ _ _ _) ?_
            dsimp only [Act.put]
            refine name_K fun V hV => ?_
            have b4 : VBox V B4 x E1 e1 E2 e2 := by rw [← hV]; exact b4.setRow x E1 E2 e1 e2
            have b5 : VBox V B5 View.zero none 0 none 0 := by rw [← hV]; exact (heap_setRow _ _ _ _ n54).trans b5
            have r1 : RepV V x E1 e1 E2 e2 := by rw [← hV]; exact r1.rowA _ a14
            have r3 : RepV V x F1 f1 F2 f2 := by rw [← hV]; exact r3.rowA _ a34
            have hv : Has w V w.heap.size x A1 c1 A2 c2 := by rw [← hV]; exact ⟨(heap_setRow _ _ _ _ (Nat.ne_of_lt l4)).trans hHeld.1.box, hHeld.1.rep.rowA _ (ApartV.old h (Nat.le_of_lt l4))⟩
            have hB : Below w.heap.size w V := by rw [← hV]; exact below_setRow hHeld.2 (Nat.le_of_lt l4) _
            refine hK.out _ _ ⟨hv, hB⟩ (fun hHeld => ?_)
            clear hK K hV hv hB
            refine wpAnyH_ready (rs := [7]) (by kernel_rfl) (by simp) ?_
            refine AllReadyH.cons (o := { dst := none, op := Op.store 25 (Operand.tmp 8) (Operand.tmp 36), type := 0, pos := "law.go:63", after := #[{ on := 5, ground := Ground.data }, { on := 3, ground := Ground.data }, { on := 6, ground := Ground.chain }, { on := 0, ground := Ground.phase }, { on := 1, ground := Ground.phase }, { on := 2, ground := Ground.phase }, { on := 3, ground := Ground.phase }, { on := 4, ground := Ground.phase }, { on := 5, ground := Ground.phase }, { on := 6, ground := Ground.phase }], guard := none }) rfl (fun K hK => ?_) AllReadyH.nil
            rw [if_pos (by kernel_rfl)]
            refine wp_store_row 25 (.tmp 8) (.tmp 36) rfl B5 (x.cells F1 f1 F2 f2) rfl rfl 25 (View.zero.cells none 0 none 0) b5 (view_size _ _ _ _ _) rfl (View.oneCell _ _ _ _ _) ?_
            dsimp only [Act.put]
            refine name_K fun V hV => ?_
            have b5 : VBox V B5 x F1 f1 F2 f2 := by rw [← hV]; exact b5.setRow x F1 F2 f1 f2
            have b4 : VBox V B4 x E1 e1 E2 e2 := by rw [← hV]; exact (heap_setRow _ _ _ _ n45x).trans b4
            have r1 : RepV V x E1 e1 E2 e2 := by rw [← hV]; exact r1.rowA _ a15
            have r3 : RepV V x F1 f1 F2 f2 := by rw [← hV]; exact r3.rowA _ a35
            have hv : Has w V w.heap.size x A1 c1 A2 c2 := by rw [← hV]; exact ⟨(heap_setRow _ _ _ _ (Nat.ne_of_lt l5)).trans hHeld.1.box, hHeld.1.rep.rowA _ (ApartV.old h (Nat.le_of_lt l5))⟩
            have hB : Below w.heap.size w V := by rw [← hV]; exact below_setRow hHeld.2 (Nat.le_of_lt l5) _
            refine hK.out _ _ ⟨hv, hB⟩ (fun hHeld => ?_)
            clear hK K hV hv hB
            refine wpAnyH_done (by kernel_rfl) ?_ _
            go_wp2
            go_meet
            case rel => exact ⟨_, _, E1, e1, E2, e2, F1, f1, F2, f2, rfl, rfl, Lib.hid ⟨hHeld.1, ⟨b4, r1⟩, ⟨b5, r3⟩, hHeld.2, l4, l5, n45x, a14, a15, a34, a35⟩⟩
    · go_simp
      refine name_K fun W1 hV => ?_
      obtain ⟨b4, hb⟩ := alloc_step hV
      have l4 := hHeld.1.box.lt
      refine hK.out _ _ ⟨hHeld.1.below hb, hHeld.2.trans (hb.mono hHeld.2.size)⟩ (fun hHeld => ?_)
      clear hK K
      clear hV hb
      obtain ⟨B4, hBe⟩ : ∃ B, W0.heap.size = B := ⟨_, rfl⟩
      rw [hBe] at b4 l4 ⊢
      clear hBe
      refine wpAnyH_ready (rs := [1, 5]) (by kernel_rfl) (by simp) ?_
      refine AllReadyH.cons (o := { dst := some 34, op := Op.call { callee := Callee.value (Operand.func 31), args := #[Operand.tmp 33], argTypes := #[25] }, type := 25, pos := "law.go:63", after := #[{ on := 0, ground := Ground.data }], guard := none }) rfl (fun K hK => ?_) (AllReadyH.cons (o := { dst := some 8, op := Op.alloc 25, type := 0, pos := "law.go:63", after := #[], guard := none }) rfl (fun K hK => ?_) AllReadyH.nil)
      · go_simp
        go_wp2_with (go_at_call 31; refine (r13_Own x A1 A2 c1 c2 _ hHeld.1.rep).mono ?_; rintro e W2 ⟨E1, e1, E2, e2, rfl, r1, hb, q1, q2⟩)
        have a14 : ApartV x E1 E2 B4 := ApartV.fresh x q1 q2 b4.lt
        have b4 := b4.below hb b4.lt
        refine hK.out _ _ ⟨hHeld.1.below hb, hHeld.2.trans (hb.mono hHeld.2.size)⟩ (fun hHeld => ?_)
        clear hK K
        clear hb q1 q2
        refine wpAnyH_ready (rs := [3, 5]) (by kernel_rfl) (by simp) ?_
        refine AllReadyH.cons (o := { dst := some 36, op := Op.call { callee := Callee.value (Operand.func 31), args := #[Operand.tmp 35], argTypes := #[25] }, type := 25, pos := "law.go:63", after := #[{ on := 2, ground := Ground.data }, { on := 1, ground := Ground.chain }], guard := none }) rfl (fun K hK => ?_) (AllReadyH.cons (o := { dst := some 8, op := Op.alloc 25, type := 0, pos := "law.go:63", after := #[], guard := none }) rfl (fun K hK => ?_) AllReadyH.nil)
        · go_simp
          go_wp2_with (go_at_call 31; refine (r13_Own x A1 A2 c1 c2 _ hHeld.1.rep).mono ?_; rintro e W3 ⟨F1, f1, F2, f2, rfl, r3, hb, q1, q2⟩)
          have a34 : ApartV x F1 F2 B4 := ApartV.fresh x q1 q2 b4.lt
          have r1 := r1.below hb
          have b4 := b4.below hb b4.lt
          refine hK.out _ _ ⟨hHeld.1.below hb, hHeld.2.trans (hb.mono hHeld.2.size)⟩ (fun hHeld => ?_)
          clear hK K
          clear hb q1 q2
          refine wpAnyH_ready (rs := [5]) (by kernel_rfl) (by simp) ?_
          refine AllReadyH.cons (o := { dst := some 8, op := Op.alloc 25, type := 0, pos := "law.go:63", after := #[], guard := none }) rfl (fun K hK => ?_) AllReadyH.nil
          · go_simp
            refine name_K fun W4 hV => ?_
            obtain ⟨b5, hb⟩ := alloc_step hV
            have l5 := hHeld.1.box.lt
            have a15 := ApartV.old r1 (Nat.le_refl _)
            have a35 := ApartV.old r3 (Nat.le_refl _)
            have n45 := Nat.ne_of_lt b4.lt
            have r1 := r1.below hb
            have r3 := r3.below hb
            have b4 := b4.below hb b4.lt
            refine hK.out _ _ ⟨hHeld.1.below hb, hHeld.2.trans (hb.mono hHeld.2.size)⟩ (fun hHeld => ?_)
            clear hK K
            clear hV hb
            obtain ⟨B5, hBe⟩ : ∃ B, W3.heap.size = B := ⟨_, rfl⟩
            rw [hBe] at b5 l5 a15 a35 n45 ⊢
            clear hBe
            have n54 : B5 ≠ B4 := by omega
            have n45x : B4 ≠ B5 := by omega
            refine wpAnyH_ready (rs := [6]) (by kernel_rfl) (by simp) ?_
            refine AllReadyH.cons (o := { dst := none, op := Op.store 25 (Operand.tmp 7) (Operand.tmp 34), type := 0, pos := "law.go:63", after := #[{ on := 4, ground := Ground.data }, { on := 1, ground := Ground.data }, { on := 3, ground := Ground.chain }, { on := 0, ground := Ground.phase }, { on := 1, ground := Ground.phase }, { on := 2, ground := Ground.textOnly Departure.lateStores }, { on := 3, ground := Ground.textOnly Departure.lateStoresUnsure }, { on := 4, ground := Ground.phase }, { on := 5, ground := Ground.phase }], guard := none }) rfl (fun K hK => ?_) AllReadyH.nil
            rw [if_pos (by kernel_rfl)]
            refine wp_store_row 25 (.tmp 7) (.tmp 34) rfl B4 (x.cells E1 e1 E2 e2) rfl rfl 25 (View.zero.cells none 0 none 0) b4 (view_size _ _ _ _ _) rfl (View.oneCell _ _ _ _ _) ?_
            dsimp only [Act.put]
            refine name_K fun V hV => ?_
            have b4 : VBox V B4 x E1 e1 E2 e2 := by rw [← hV]; exact b4.setRow x E1 E2 e1 e2
            have b5 : VBox V B5 View.zero none 0 none 0 := by rw [← hV]; exact (heap_setRow _ _ _ _ n54).trans b5
            have r1 : RepV V x E1 e1 E2 e2 := by rw [← hV]; exact r1.rowA _ a14
            have r3 : RepV V x F1 f1 F2 f2 := by rw [← hV]; exact r3.rowA _ a34
            have hv : Has w V w.heap.size x A1 c1 A2 c2 := by rw [← hV]; exact ⟨(heap_setRow _ _ _ _ (Nat.ne_of_lt l4)).trans hHeld.1.box, hHeld.1.rep.rowA _ (ApartV.old h (Nat.le_of_lt l4))⟩
            have hB : Below w.heap.size w V := by rw [← hV]; exact below_setRow hHeld.2 (Nat.le_of_lt l4) _
            refine hK.out _ _ ⟨hv, hB⟩ (fun hHeld => ?_)
            clear hK K hV hv hB
            refine wpAnyH_ready (rs := [7]) (by kernel_rfl) (by simp) ?_
            refine AllReadyH.cons (o := { dst := none, op := Op.store 25 (Operand.tmp 8) (Operand.tmp 36), type := 0, pos := "law.go:63", after := #[{ on := 5, ground := Ground.data }, { on := 3, ground := Ground.data }, { on := 6, ground := Ground.chain }, { on := 0, ground := Ground.phase }, { on := 1, ground := Ground.phase }, { on := 2, ground := Ground.phase }, { on := 3, ground := Ground.phase }, { on := 4, ground := Ground.phase }, { on := 5, ground := Ground.phase }, { on := 6, ground := Ground.phase }], guard := none }) rfl (fun K hK => ?_) AllReadyH.nil
            rw [if_pos (by kernel_rfl)]
            refine wp_store_row 25 (.tmp 8) (.tmp 36) rfl B5 (x.cells F1 f1 F2 f2) rfl rfl 25 (View.zero.cells none 0 none 0) b5 (view_size _ _ _ _ _) rfl (View.oneCell _ _ _ _ _) ?_
            dsimp only [Act.put]
            refine name_K fun V hV => ?_
            have b5 : VBox V B5 x F1 f1 F2 f2 := by rw [← hV]; exact b5.setRow x F1 F2 f1 f2
            have b4 : VBox V B4 x E1 e1 E2 e2 := by rw [← hV]; exact (heap_setRow _ _ _ _ n45x).trans b4
            have r1 : RepV V x E1 e1 E2 e2 := by rw [← hV]; exact r1.rowA _ a15
            have r3 : RepV V x F1 f1 F2 f2 := by rw [← hV]; exact r3.rowA _ a35
            have hv : Has w V w.heap.size x A1 c1 A2 c2 := by rw [← hV]; exact ⟨(heap_setRow _ _ _ _ (Nat.ne_of_lt l5)).trans hHeld.1.box, hHeld.1.rep.rowA _ (ApartV.old h (Nat.le_of_lt l5))⟩
            have hB : Below w.heap.size w V := by rw [← hV]; exact below_setRow hHeld.2 (Nat.le_of_lt l5) _
            refine hK.out _ _ ⟨hv, hB⟩ (fun hHeld => ?_)
            clear hK K hV hv hB
            refine wpAnyH_done (by kernel_rfl) ?_ _
            go_wp2
            go_meet
            case rel => exact ⟨_, _, E1, e1, E2, e2, F1, f1, F2, f2, rfl, rfl, Lib.hid ⟨hHeld.1, ⟨b4, r1⟩, ⟨b5, r3⟩, hHeld.2, l4, l5, n45x, a14, a15, a34, a35⟩⟩
        · go_simp
          refine name_K fun W3 hV => ?_
          obtain ⟨b5, hb⟩ := alloc_step hV
          have l5 := hHeld.1.box.lt
          have a15 := ApartV.old r1 (Nat.le_refl _)
          have n45 := Nat.ne_of_lt b4.lt
          have r1 := r1.below hb
          have b4 := b4.below hb b4.lt
          refine hK.out _ _ ⟨hHeld.1.below hb, hHeld.2.trans (hb.mono hHeld.2.size)⟩ (fun hHeld => ?_)
          clear hK K
          clear hV hb
          obtain ⟨B5, hBe⟩ : ∃ B, W2.heap.size = B := ⟨_, rfl⟩
          rw [hBe] at b5 l5 a15 n45 ⊢
          clear hBe
          refine wpAnyH_ready (rs := [3]) (by kernel_rfl) (by simp) ?_
          refine AllReadyH.cons (o := { dst := some 36, op := Op.call { callee := Callee.value (Operand.func 31), args := #[Operand.tmp 35], argTypes := #[25] }, type := 25, pos := "law.go:63", after := #[{ on := 2, ground := Ground.data }, { on := 1, ground := Ground.chain }], guard := none }) rfl (fun K hK => ?_) AllReadyH.nil
          · go_simp
            go_wp2_with (go_at_call 31; refine (r13_Own x A1 A2 c1 c2 _ hHeld.1.rep).mono ?_; rintro e W4 ⟨F1, f1, F2, f2, rfl, r3, hb, q1, q2⟩)
            have a34 : ApartV x F1 F2 B4 := ApartV.fresh x q1 q2 b4.lt
            have a35 : ApartV x F1 F2 B5 := ApartV.fresh x q1 q2 b5.lt
            have r1 := r1.below hb
            have b4 := b4.below hb b4.lt
            have b5 := b5.below hb b5.lt
            refine hK.out _ _ ⟨hHeld.1.below hb, hHeld.2.trans (hb.mono hHeld.2.size)⟩ (fun hHeld => ?_)
            clear hK K
            clear hb q1 q2
            have n54 : B5 ≠ B4 := by omega
            have n45x : B4 ≠ B5 := by omega
            refine wpAnyH_ready (rs := [6]) (by kernel_rfl) (by simp) ?_
            refine AllReadyH.cons (o := { dst := none, op := Op.store 25 (Operand.tmp 7) (Operand.tmp 34), type := 0, pos := "law.go:63", after := #[{ on := 4, ground := Ground.data }, { on := 1, ground := Ground.data }, { on := 3, ground := Ground.chain }, { on := 0, ground := Ground.phase }, { on := 1, ground := Ground.phase }, { on := 2, ground := Ground.textOnly Departure.lateStores }, { on := 3, ground := Ground.textOnly Departure.lateStoresUnsure }, { on := 4, ground := Ground.phase }, { on := 5, ground := Ground.phase }], guard := none }) rfl (fun K hK => ?_) AllReadyH.nil
            rw [if_pos (by kernel_rfl)]
            refine wp_store_row 25 (.tmp 7) (.tmp 34) rfl B4 (x.cells E1 e1 E2 e2) rfl rfl 25 (View.zero.cells none 0 none 0) b4 (view_size _ _ _ _ _) rfl (View.oneCell _ _ _ _ _) ?_
            dsimp only [Act.put]
            refine name_K fun V hV => ?_
            have b4 : VBox V B4 x E1 e1 E2 e2 := by rw [← hV]; exact b4.setRow x E1 E2 e1 e2
            have b5 : VBox V B5 View.zero none 0 none 0 := by rw [← hV]; exact (heap_setRow _ _ _ _ n54).trans b5
            have r1 : RepV V x E1 e1 E2 e2 := by rw [← hV]; exact r1.rowA _ a14
            have r3 : RepV V x F1 f1 F2 f2 := by rw [← hV]; exact r3.rowA _ a34
            have hv : Has w V w.heap.size x A1 c1 A2 c2 := by rw [← hV]; exact ⟨(heap_setRow _ _ _ _ (Nat.ne_of_lt l4)).trans hHeld.1.box, hHeld.1.rep.rowA _ (ApartV.old h (Nat.le_of_lt l4))⟩
            have hB : Below w.heap.size w V := by rw [← hV]; exact below_setRow hHeld.2 (Nat.le_of_lt l4) _
            refine hK.out _ _ ⟨hv, hB⟩ (fun hHeld => ?_)
            clear hK K hV hv hB
            refine wpAnyH_ready (rs := [7]) (by kernel_rfl) (by simp) ?_
            refine AllReadyH.cons (o := { dst := none, op := Op.store 25 (Operand.tmp 8) (Operand.tmp 36), type := 0, pos := "law.go:63", after := #[{ on := 5, ground := Ground.data }, { on := 3, ground := Ground.data }, { on := 6, ground := Ground.chain }, { on := 0, ground := Ground.phase }, { on := 1, ground := Ground.phase }, { on := 2, ground := Ground.phase }, { on := 3, ground := Ground.phase }, { on := 4, ground := Ground.phase }, { on := 5, ground := Ground.phase }, { on := 6, ground := Ground.phase }], guard := none }) rfl (fun K hK => ?_) AllReadyH.nil
            rw [if_pos (by kernel_rfl)]
            refine wp_store_row 25 (.tmp 8) (.tmp 36) rfl B5 (x.cells F1 f1 F2 f2) rfl rfl 25 (View.zero.cells none 0 none 0) b5 (view_size _ _ _ _ _) rfl (View.oneCell _ _ _ _ _) ?_
            dsimp only [Act.put]
            refine name_K fun V hV => ?_
            have b5 : VBox V B5 x F1 f1 F2 f2 := by rw [← hV]; exact b5.setRow x F1 F2 f1 f2
            have b4 : VBox V B4 x E1 e1 E2 e2 := by rw [← hV]; exact (heap_setRow _ _ _ _ n45x).trans b4
            have r1 : RepV V x E1 e1 E2 e2 := by rw [← hV]; exact r1.rowA _ a15
            have r3 : RepV V x F1 f1 F2 f2 := by rw [← hV]; exact r3.rowA _ a35
            have hv : Has w V w.heap.size x A1 c1 A2 c2 := by rw [← hV]; exact ⟨(heap_setRow _ _ _ _ (Nat.ne_of_lt l5)).trans hHeld.1.box, hHeld.1.rep.rowA _ (ApartV.old h (Nat.le_of_lt l5))⟩
            have hB : Below w.heap.size w V := by rw [← hV]; exact below_setRow hHeld.2 (Nat.le_of_lt l5) _
            refine hK.out _ _ ⟨hv, hB⟩ (fun hHeld => ?_)
            clear hK K hV hv hB
            refine wpAnyH_done (by kernel_rfl) ?_ _
            go_wp2
            go_meet
            case rel => exact ⟨_, _, E1, e1, E2, e2, F1, f1, F2, f2, rfl, rfl, Lib.hid ⟨hHeld.1, ⟨b4, r1⟩, ⟨b5, r3⟩, hHeld.2, l4, l5, n45x, a14, a15, a34, a35⟩⟩
      · go_simp
        refine name_K fun W2 hV => ?_
        obtain ⟨b5, hb⟩ := alloc_step hV
        have l5 := hHeld.1.box.lt
        have n45 := Nat.ne_of_lt b4.lt
        have b4 := b4.below hb b4.lt
        refine hK.out _ _ ⟨hHeld.1.below hb, hHeld.2.trans (hb.mono hHeld.2.size)⟩ (fun hHeld => ?_)
        clear hK K
        clear hV hb
        obtain ⟨B5, hBe⟩ : ∃ B, W1.heap.size = B := ⟨_, rfl⟩
        rw [hBe] at b5 l5 n45 ⊢
        clear hBe
        refine wpAnyH_ready (rs := [1]) (by kernel_rfl) (by simp) ?_
        refine AllReadyH.cons (o := { dst := some 34, op := Op.call { callee := Callee.value (Operand.func 31), args := #[Operand.tmp 33], argTypes := #[25] }, type := 25, pos := "law.go:63", after := #[{ on := 0, ground := Ground.data }], guard := none }) rfl (fun K hK => ?_) AllReadyH.nil
        · go_simp
          go_wp2_with (go_at_call 31; refine (r13_Own x A1 A2 c1 c2 _ hHeld.1.rep).mono ?_; rintro e W3 ⟨E1, e1, E2, e2, rfl, r1, hb, q1, q2⟩)
          have a14 : ApartV x E1 E2 B4 := ApartV.fresh x q1 q2 b4.lt
          have a15 : ApartV x E1 E2 B5 := ApartV.fresh x q1 q2 b5.lt
          have b4 := b4.below hb b4.lt
          have b5 := b5.below hb b5.lt
          refine hK.out _ _ ⟨hHeld.1.below hb, hHeld.2.trans (hb.mono hHeld.2.size)⟩ (fun hHeld => ?_)
          clear hK K
          clear hb q1 q2
          refine wpAnyH_ready (rs := [3]) (by kernel_rfl) (by simp) ?_
          refine AllReadyH.cons (o := { dst := some 36, op := Op.call { callee := Callee.value (Operand.func 31), args := #[Operand.tmp 35], argTypes := #[25] }, type := 25, pos := "law.go:63", after := #[{ on := 2, ground := Ground.data }, { on := 1, ground := Ground.chain }], guard := none }) rfl (fun K hK => ?_) AllReadyH.nil
          · go_simp
            go_wp2_with (go_at_call 31; refine (r13_Own x A1 A2 c1 c2 _ hHeld.1.rep).mono ?_; rintro e W4 ⟨F1, f1, F2, f2, rfl, r3, hb, q1, q2⟩)
            have a34 : ApartV x F1 F2 B4 := ApartV.fresh x q1 q2 b4.lt
            have a35 : ApartV x F1 F2 B5 := ApartV.fresh x q1 q2 b5.lt
            have r1 := r1.below hb
            have b4 := b4.below hb b4.lt
            have b5 := b5.below hb b5.lt
            refine hK.out _ _ ⟨hHeld.1.below hb, hHeld.2.trans (hb.mono hHeld.2.size)⟩ (fun hHeld => ?_)
            clear hK K
            clear hb q1 q2
            have n54 : B5 ≠ B4 := by omega
            have n45x : B4 ≠ B5 := by omega
            refine wpAnyH_ready (rs := [6]) (by kernel_rfl) (by simp) ?_
            refine AllReadyH.cons (o := { dst := none, op := Op.store 25 (Operand.tmp 7) (Operand.tmp 34), type := 0, pos := "law.go:63", after := #[{ on := 4, ground := Ground.data }, { on := 1, ground := Ground.data }, { on := 3, ground := Ground.chain }, { on := 0, ground := Ground.phase }, { on := 1, ground := Ground.phase }, { on := 2, ground := Ground.textOnly Departure.lateStores }, { on := 3, ground := Ground.textOnly Departure.lateStoresUnsure }, { on := 4, ground := Ground.phase }, { on := 5, ground := Ground.phase }], guard := none }) rfl (fun K hK => ?_) AllReadyH.nil
            rw [if_pos (by kernel_rfl)]
            refine wp_store_row 25 (.tmp 7) (.tmp 34) rfl B4 (x.cells E1 e1 E2 e2) rfl rfl 25 (View.zero.cells none 0 none 0) b4 (view_size _ _ _ _ _) rfl (View.oneCell _ _ _ _ _) ?_
            dsimp only [Act.put]
            refine name_K fun V hV => ?_
            have b4 : VBox V B4 x E1 e1 E2 e2 := by rw [← hV]; exact b4.setRow x E1 E2 e1 e2
            have b5 : VBox V B5 View.zero none 0 none 0 := by rw [← hV]; exact (heap_setRow _ _ _ _ n54).trans b5
            have r1 : RepV V x E1 e1 E2 e2 := by rw [← hV]; exact r1.rowA _ a14
            have r3 : RepV V x F1 f1 F2 f2 := by rw [← hV]; exact r3.rowA _ a34
            have hv : Has w V w.heap.size x A1 c1 A2 c2 := by rw [← hV]; exact ⟨(heap_setRow _ _ _ _ (Nat.ne_of_lt l4)).trans hHeld.1.box, hHeld.1.rep.rowA _ (ApartV.old h (Nat.le_of_lt l4))⟩
            have hB : Below w.heap.size w V := by rw [← hV]; exact below_setRow hHeld.2 (Nat.le_of_lt l4) _
            refine hK.out _ _ ⟨hv, hB⟩ (fun hHeld => ?_)
            clear hK K hV hv hB
            refine wpAnyH_ready (rs := [7]) (by kernel_rfl) (by simp) ?_
            refine AllReadyH.cons (o := { dst := none, op := Op.store 25 (Operand.tmp 8) (Operand.tmp 36), type := 0, pos := "law.go:63", after := #[{ on := 5, ground := Ground.data }, { on := 3, ground := Ground.data }, { on := 6, ground := Ground.chain }, { on := 0, ground := Ground.phase }, { on := 1, ground := Ground.phase }, { on := 2, ground := Ground.phase }, { on := 3, ground := Ground.phase }, { on := 4, ground := Ground.phase }, { on := 5, ground := Ground.phase }, { on := 6, ground := Ground.phase }], guard := none }) rfl (fun K hK => ?_) AllReadyH.nil
            rw [if_pos (by kernel_rfl)]
            refine wp_store_row 25 (.tmp 8) (.tmp 36) rfl B5 (x.cells F1 f1 F2 f2) rfl rfl 25 (View.zero.cells none 0 none 0) b5 (view_size _ _ _ _ _) rfl (View.oneCell _ _ _ _ _) ?_
            dsimp only [Act.put]
            refine name_K fun V hV => ?_
            have b5 : VBox V B5 x F1 f1 F2 f2 := by rw [← hV]; exact b5.setRow x F1 F2 f1 f2
            have b4 : VBox V B4 x E1 e1 E2 e2 := by rw [← hV]; exact (heap_setRow _ _ _ _ n45x).trans b4
            have r1 : RepV V x E1 e1 E2 e2 := by rw [← hV]; exact r1.rowA _ a15
            have r3 : RepV V x F1 f1 F2 f2 := by rw [← hV]; exact r3.rowA _ a35
            have hv : Has w V w.heap.size x A1 c1 A2 c2 := by rw [← hV]; exact ⟨(heap_setRow _ _ _ _ (Nat.ne_of_lt l5)).trans hHeld.1.box, hHeld.1.rep.rowA _ (ApartV.old h (Nat.le_of_lt l5))⟩
            have hB : Below w.heap.size w V := by rw [← hV]; exact below_setRow hHeld.2 (Nat.le_of_lt l5) _
            refine hK.out _ _ ⟨hv, hB⟩ (fun hHeld => ?_)
            clear hK K hV hv hB
            refine wpAnyH_done (by kernel_rfl) ?_ _
            go_wp2
            go_meet
            case rel => exact ⟨_, _, E1, e1, E2, e2, F1, f1, F2, f2, rfl, rfl, Lib.hid ⟨hHeld.1, ⟨b4, r1⟩, ⟨b5, r3⟩, hHeld.2, l4, l5, n45x, a14, a15, a34, a35⟩⟩
    · go_simp
      refine name_K fun W1 hV => ?_
      obtain ⟨b5, hb⟩ := alloc_step hV
      have l5 := hHeld.1.box.lt
      refine hK.out _ _ ⟨hHeld.1.below hb, hHeld.2.trans (hb.mono hHeld.2.size)⟩ (fun hHeld => ?_)
      clear hK K
      clear hV hb
      obtain ⟨B5, hBe⟩ : ∃ B, W0.heap.size = B := ⟨_, rfl⟩
      rw [hBe] at b5 l5 ⊢
      clear hBe
      refine wpAnyH_ready (rs := [1, 4]) (by kernel_rfl) (by simp) ?_
      refine AllReadyH.cons (o := { dst := some 34, op := Op.call { callee := Callee.value (Operand.func 31), args := #[Operand.tmp 33], argTypes := #[25] }, type := 25, pos := "law.go:63", after := #[{ on := 0, ground := Ground.data }], guard := none }) rfl (fun K hK => ?_) (AllReadyH.cons (o := { dst := some 7, op := Op.alloc 25, type := 0, pos := "law.go:63", after := #[], guard := none }) rfl (fun K hK => ?_) AllReadyH.nil)
      · go_simp
        go_wp2_with (go_at_call 31; refine (r13_Own x A1 A2 c1 c2 _ hHeld.1.rep).mono ?_; rintro e W2 ⟨E1, e1, E2, e2, rfl, r1, hb, q1, q2⟩)
        have a15 : ApartV x E1 E2 B5 := ApartV.fresh x q1 q2 b5.lt
        have b5 := b5.below hb b5.lt
        refine hK.out _ _ ⟨hHeld.1.below hb, hHeld.2.trans (hb.mono hHeld.2.size)⟩ (fun hHeld => ?_)
        clear hK K
        clear hb q1 q2
        refine wpAnyH_ready (rs := [3, 4]) (by kernel_rfl) (by simp) ?_
        refine AllReadyH.cons (o := { dst := some 36, op := Op.call { callee := Callee.value (Operand.func 31), args := #[Operand.tmp 35], argTypes := #[25] }, type := 25, pos := "law.go:63", after := #[{ on := 2, ground := Ground.data }, { on := 1, ground := Ground.chain }], guard := none }) rfl (fun K hK => ?_) (AllReadyH.cons (o := { dst := some 7, op := Op.alloc 25, type := 0, pos := "law.go:63", after := #[], guard := none }) rfl (fun K hK => ?_) AllReadyH.nil)
        · go_simp
          go_wp2_with (go_at_call 31; refine (r13_Own x A1 A2 c1 c2 _ hHeld.1.rep).mono ?_; rintro e W3 ⟨F1, f1, F2, f2, rfl, r3, hb, q1, q2⟩)
          have a35 : ApartV x F1 F2 B5 := ApartV.fresh x q1 q2 b5.lt
          have r1 := r1.below hb
          have b5 := b5.below hb b5.lt
          refine hK.out _ _ ⟨hHeld.1.below hb, hHeld.2.trans (hb.mono hHeld.2.size)⟩ (fun hHeld => ?_)
          clear hK K
          clear hb q1 q2
          refine wpAnyH_ready (rs := [4]) (by kernel_rfl) (by simp) ?_
          refine AllReadyH.cons (o := { dst := some 7, op := Op.alloc 25, type := 0, pos := "law.go:63", after := #[], guard := none }) rfl (fun K hK => ?_) AllReadyH.nil
          · go_simp
            refine name_K fun W4 hV => ?_
            obtain ⟨b4, hb⟩ := alloc_step hV
            have l4 := hHeld.1.box.lt
            have a14 := ApartV.old r1 (Nat.le_refl _)
            have a34 := ApartV.old r3 (Nat.le_refl _)
            have n45 := Nat.ne_of_lt b5.lt
            have r1 := r1.below hb
            have r3 := r3.below hb
            have b5 := b5.below hb b5.lt
            refine hK.out _ _ ⟨hHeld.1.below hb, hHeld.2.trans (hb.mono hHeld.2.size)⟩ (fun hHeld => ?_)
            clear hK K
            clear hV hb
            obtain ⟨B4, hBe⟩ : ∃ B, W3.heap.size = B := ⟨_, rfl⟩
            rw [hBe] at b4 l4 a14 a34 n45 ⊢
            clear hBe
            have n54 : B5 ≠ B4 := by omega
            have n45x : B4 ≠ B5 := by omega
            refine wpAnyH_ready (rs := [6]) (by kernel_rfl) (by simp) ?_
            refine AllReadyH.cons (o := { dst := none, op := Op.store 25 (Operand.tmp 7) (Operand.tmp 34), type := 0, pos := "law.go:63", after := #[{ on := 4, ground := Ground.data }, { on := 1, ground := Ground.data }, { on := 3, ground := Ground.chain }, { on := 0, ground := Ground.phase }, { on := 1, ground := Ground.phase }, { on := 2, ground := Ground.textOnly Departure.lateStores }, { on := 3, ground := Ground.textOnly Departure.lateStoresUnsure }, { on := 4, ground := Ground.phase }, { on := 5, ground := Ground.phase }], guard := none }) rfl (fun K hK => ?_) AllReadyH.nil
            rw [if_pos (by kernel_rfl)]
            refine wp_store_row 25 (.tmp 7) (.tmp 34) rfl B4 (x.cells E1 e1 E2 e2) rfl rfl 25 (View.zero.cells none 0 none 0) b4 (view_size _ _ _ _ _) rfl (View.oneCell _ _ _ _ _) ?_
            dsimp only [Act.put]
            refine name_K fun V hV => ?_
            have b4 : VBox V B4 x E1 e1 E2 e2 := by rw [← hV]; exact b4.setRow x E1 E2 e1 e2
            have b5 : VBox V B5 View.zero none 0 none 0 := by rw [← hV]; exact (heap_setRow _ _ _ _ n54).trans b5
            have r1 : RepV V x E1 e1 E2 e2 := by rw [← hV]; exact r1.rowA _ a14
            have r3 : RepV V x F1 f1 F2 f2 := by rw [← hV]; exact r3.rowA _ a34
            have hv : Has w V w.heap.size x A1 c1 A2 c2 := by rw [← hV]; exact ⟨(heap_setRow _ _ _ _ (Nat.ne_of_lt l4)).trans hHeld.1.box, hHeld.1.rep.rowA _ (ApartV.old h (Nat.le_of_lt l4))⟩
            have hB : Below w.heap.size w V := by rw [← hV]; exact below_setRow hHeld.2 (Nat.le_of_lt l4) _
            refine hK.out _ _ ⟨hv, hB⟩ (fun hHeld => ?_)
            clear hK K hV hv hB
            refine wpAnyH_ready (rs := [7]) (by kernel_rfl) (by simp) ?_
            refine AllReadyH.cons (o := { dst := none, op := Op.store 25 (Operand.tmp 8) (Operand.tmp 36), type := 0, pos := "law.go:63", after := #[{ on := 5, ground := Ground.data }, { on := 3, ground := Ground.data }, { on := 6, ground := Ground.chain }, { on := 0, ground := Ground.phase }, { on := 1, ground := Ground.phase }, { on := 2, ground := Ground.phase }, { on := 3, ground := Ground.phase }, { on := 4, ground := Ground.phase }, { on := 5, ground := Ground.phase }, { on := 6, ground := Ground.phase }], guard := none }) rfl (fun K hK => ?_) AllReadyH.nil
            rw [if_pos (by kernel_rfl)]
            refine wp_store_row 25 (.tmp 8) (.tmp 36) rfl B5 (x.cells F1 f1 F2 f2) rfl rfl 25 (View.zero.cells none 0 none 0) b5 (view_size _ _ _ _ _) rfl (View.oneCell _ _ _ _ _) ?_
            dsimp only [Act.put]
            refine name_K fun V hV => ?_
            have b5 : VBox V B5 x F1 f1 F2 f2 := by rw [← hV]; exact b5.setRow x F1 F2 f1 f2
            have b4 : VBox V B4 x E1 e1 E2 e2 := by rw [← hV]; exact (heap_setRow _ _ _ _ n45x).trans b4
            have r1 : RepV V x E1 e1 E2 e2 := by rw [← hV]; exact r1.rowA _ a15
            have r3 : RepV V x F1 f1 F2 f2 := by rw [← hV]; exact r3.rowA _ a35
            have hv : Has w V w.heap.size x A1 c1 A2 c2 := by rw [← hV]; exact ⟨(heap_setRow _ _ _ _ (Nat.ne_of_lt l5)).trans hHeld.1.box, hHeld.1.rep.rowA _ (ApartV.old h (Nat.le_of_lt l5))⟩
            have hB : Below w.heap.size w V := by rw [← hV]; exact below_setRow hHeld.2 (Nat.le_of_lt l5) _
            refine hK.out _ _ ⟨hv, hB⟩ (fun hHeld => ?_)
            clear hK K hV hv hB
            refine wpAnyH_done (by kernel_rfl) ?_ _
            go_wp2
            go_meet
            case rel => exact ⟨_, _, E1, e1, E2, e2, F1, f1, F2, f2, rfl, rfl, Lib.hid ⟨hHeld.1, ⟨b4, r1⟩, ⟨b5, r3⟩, hHeld.2, l4, l5, n45x, a14, a15, a34, a35⟩⟩
        · go_simp
          refine name_K fun W3 hV => ?_
          obtain ⟨b4, hb⟩ := alloc_step hV
          have l4 := hHeld.1.box.lt
          have a14 := ApartV.old r1 (Nat.le_refl _)
          have n45 := Nat.ne_of_lt b5.lt
          have r1 := r1.below hb
          have b5 := b5.below hb b5.lt
          refine hK.out _ _ ⟨hHeld.1.below hb, hHeld.2.trans (hb.mono hHeld.2.size)⟩ (fun hHeld => ?_)
          clear hK K
          clear hV hb
          obtain ⟨B4, hBe⟩ : ∃ B, W2.heap.size = B := ⟨_, rfl⟩
          rw [hBe] at b4 l4 a14 n45 ⊢
          clear hBe
          refine wpAnyH_ready (rs := [3]) (by kernel_rfl) (by simp) ?_
          refine AllReadyH.cons (o := { dst := some 36, op := Op.call { callee := Callee.value (Operand.func 31), args := #[Operand.tmp 35], argTypes := #[25] }, type := 25, pos := "law.go:63", after := #[{ on := 2, ground := Ground.data }, { on := 1, ground := Ground.chain }], guard := none }) rfl (fun K hK => ?_) AllReadyH.nil
          · go_simp
            go_wp2_with (go_at_call 31; refine (r13_Own x A1 A2 c1 c2 _ hHeld.1.rep).mono ?_; rintro e W4 ⟨F1, f1, F2, f2, rfl, r3, hb, q1, q2⟩)
            have a34 : ApartV x F1 F2 B4 := ApartV.fresh x q1 q2 b4.lt
            have a35 : ApartV x F1 F2 B5 := ApartV.fresh x q1 q2 b5.lt
            have r1 := r1.below hb
            have b4 := b4.below hb b4.lt
            have b5 := b5.below hb b5.lt
            refine hK.out _ _ ⟨hHeld.1.below hb, hHeld.2.trans (hb.mono hHeld.2.size)⟩ (fun hHeld => ?_)
            clear hK K
            clear hb q1 q2
            have n54 : B5 ≠ B4 := by omega
            have n45x : B4 ≠ B5 := by omega
            refine wpAnyH_ready (rs := [6]) (by kernel_rfl) (by simp) ?_
            refine AllReadyH.cons (o := { dst := none, op := Op.store 25 (Operand.tmp 7) (Operand.tmp 34), type := 0, pos := "law.go:63", after := #[{ on := 4, ground := Ground.data }, { on := 1, ground := Ground.data }, { on := 3, ground := Ground.chain }, { on := 0, ground := Ground.phase }, { on := 1, ground := Ground.phase }, { on := 2, ground := Ground.textOnly Departure.lateStores }, { on := 3, ground := Ground.textOnly Departure.lateStoresUnsure }, { on := 4, ground := Ground.phase }, { on := 5, ground := Ground.phase }], guard := none }) rfl (fun K hK => ?_) AllReadyH.nil
            rw [if_pos (by kernel_rfl)]
            refine wp_store_row 25 (.tmp 7) (.tmp 34) rfl B4 (x.cells E1 e1 E2 e2) rfl rfl 25 (View.zero.cells none 0 none 0) b4 (view_size _ _ _ _ _) rfl (View.oneCell _ _ _ _ _) ?_
            dsimp only [Act.put]
            refine name_K fun V hV => ?_
            have b4 : VBox V B4 x E1 e1 E2 e2 := by rw [← hV]; exact b4.setRow x E1 E2 e1 e2
            have b5 : VBox V B5 View.zero none 0 none 0 := by rw [← hV]; exact (heap_setRow _ _ _ _ n54).trans b5
            have r1 : RepV V x E1 e1 E2 e2 := by rw [← hV]; exact r1.rowA _ a14
            have r3 : RepV V x F1 f1 F2 f2 := by rw [← hV]; exact r3.rowA _ a34
            have hv : Has w V w.heap.size x A1 c1 A2 c2 := by rw [← hV]; exact ⟨(heap_setRow _ _ _ _ (Nat.ne_of_lt l4)).trans hHeld.1.box, hHeld.1.rep.rowA _ (ApartV.old h (Nat.le_of_lt l4))⟩
            have hB : Below w.heap.size w V := by rw [← hV]; exact below_setRow hHeld.2 (Nat.le_of_lt l4) _
            refine hK.out _ _ ⟨hv, hB⟩ (fun hHeld => ?_)
            clear hK K hV hv hB
            refine wpAnyH_ready (rs := [7]) (by kernel_rfl) (by simp) ?_
            refine AllReadyH.cons (o := { dst := none, op := Op.store 25 (Operand.tmp 8) (Operand.tmp 36), type := 0, pos := "law.go:63", after := #[{ on := 5, ground := Ground.data }, { on := 3, ground := Ground.data }, { on := 6, ground := Ground.chain }, { on := 0, ground := Ground.phase }, { on := 1, ground := Ground.phase }, { on := 2, ground := Ground.phase }, { on := 3, ground := Ground.phase }, { on := 4, ground := Ground.phase }, { on := 5, ground := Ground.phase }, { on := 6, ground := Ground.phase }], guard := none }) rfl (fun K hK => ?_) AllReadyH.nil
            rw [if_pos (by kernel_rfl)]
            refine wp_store_row 25 (.tmp 8) (.tmp 36) rfl B5 (x.cells F1 f1 F2 f2) rfl rfl 25 (View.zero.cells none 0 none 0) b5 (view_size _ _ _ _ _) rfl (View.oneCell _ _ _ _ _) ?_
            dsimp only [Act.put]
            refine name_K fun V hV => ?_
            have b5 : VBox V B5 x F1 f1 F2 f2 := by rw [← hV]; exact b5.setRow x F1 F2 f1 f2
            have b4 : VBox V B4 x E1 e1 E2 e2 := by rw [← hV]; exact (heap_setRow _ _ _ _ n45x).trans b4
            have r1 : RepV V x E1 e1 E2 e2 := by rw [← hV]; exact r1.rowA _ a15
            have r3 : RepV V x F1 f1 F2 f2 := by rw [← hV]; exact r3.rowA _ a35
            have hv : Has w V w.heap.size x A1 c1 A2 c2 := by rw [← hV]; exact ⟨(heap_setRow _ _ _ _ (Nat.ne_of_lt l5)).trans hHeld.1.box, hHeld.1.rep.rowA _ (ApartV.old h (Nat.le_of_lt l5))⟩
            have hB : Below w.heap.size w V := by rw [← hV]; exact below_setRow hHeld.2 (Nat.le_of_lt l5) _
            refine hK.out _ _ ⟨hv, hB⟩ (fun hHeld => ?_)
            clear hK K hV hv hB
            refine wpAnyH_done (by kernel_rfl) ?_ _
            go_wp2
            go_meet
            case rel => exact ⟨_, _, E1, e1, E2, e2, F1, f1, F2, f2, rfl, rfl, Lib.hid ⟨hHeld.1, ⟨b4, r1⟩, ⟨b5, r3⟩, hHeld.2, l4, l5, n45x, a14, a15, a34, a35⟩⟩
      · go_simp
        refine name_K fun W2 hV => ?_
        obtain ⟨b4, hb⟩ := alloc_step hV
        have l4 := hHeld.1.box.lt
        have n45 := Nat.ne_of_lt b5.lt
        have b5 := b5.below hb b5.lt
        refine hK.out _ _ ⟨hHeld.1.below hb, hHeld.2.trans (hb.mono hHeld.2.size)⟩ (fun hHeld => ?_)
        clear hK K
        clear hV hb
        obtain ⟨B4, hBe⟩ : ∃ B, W1.heap.size = B := ⟨_, rfl⟩
        rw [hBe] at b4 l4 n45 ⊢
        clear hBe
        refine wpAnyH_ready (rs := [1]) (by kernel_rfl) (by simp) ?_
        refine AllReadyH.cons (o := { dst := some 34, op := Op.call { callee := Callee.value (Operand.func 31), args := #[Operand.tmp 33], argTypes := #[25] }, type := 25, pos := "law.go:63", after := #[{ on := 0, ground := Ground.data }], guard := none }) rfl (fun K hK => ?_) AllReadyH.nil
        · go_simp
          go_wp2_with (go_at_call 31; refine (r13_Own x A1 A2 c1 c2 _ hHeld.1.rep).mono ?_; rintro e W3 ⟨E1, e1, E2, e2, rfl, r1, hb, q1, q2⟩)
          have a14 : ApartV x E1 E2 B4 := ApartV.fresh x q1 q2 b4.lt
          have a15 : ApartV x E1 E2 B5 := ApartV.fresh x q1 q2 b5.lt
          have b4 := b4.below hb b4.lt
          have b5 := b5.below hb b5.lt
          refine hK.out _ _ ⟨hHeld.1.below hb, hHeld.2.trans (hb.mono hHeld.2.size)⟩ (fun hHeld => ?_)
          clear hK K
          clear hb q1 q2
          refine wpAnyH_ready (rs := [3]) (by kernel_rfl) (by simp) ?_
          refine AllReadyH.cons (o := { dst := some 36, op := Op.call { callee := Callee.value (Operand.func 31), args := #[Operand.tmp 35], argTypes := #[25] }, type := 25, pos := "law.go:63", after := #[{ on := 2, ground := Ground.data }, { on := 1, ground := Ground.chain }], guard := none }) rfl (fun K hK => ?_) AllReadyH.nil
          · go_simp
            go_wp2_with (go_at_call 31; refine (r13_Own x A1 A2 c1 c2 _ hHeld.1.rep).mono ?_; rintro e W4 ⟨F1, f1, F2, f2, rfl, r3, hb, q1, q2⟩)
            have a34 : ApartV x F1 F2 B4 := ApartV.fresh x q1 q2 b4.lt
            have a35 : ApartV x F1 F2 B5 := ApartV.fresh x q1 q2 b5.lt
            have r1 := r1.below hb
            have b4 := b4.below hb b4.lt
            have b5 := b5.below hb b5.lt
            refine hK.out _ _ ⟨hHeld.1.below hb, hHeld.2.trans (hb.mono hHeld.2.size)⟩ (fun hHeld => ?_)
            clear hK K
            clear hb q1 q2
            have n54 : B5 ≠ B4 := by omega
            have n45x : B4 ≠ B5 := by omega
            refine wpAnyH_ready (rs := [6]) (by kernel_rfl) (by simp) ?_
            refine AllReadyH.cons (o := { dst := none, op := Op.store 25 (Operand.tmp 7) (Operand.tmp 34), type := 0, pos := "law.go:63", after := #[{ on := 4, ground := Ground.data }, { on := 1, ground := Ground.data }, { on := 3, ground := Ground.chain }, { on := 0, ground := Ground.phase }, { on := 1, ground := Ground.phase }, { on := 2, ground := Ground.textOnly Departure.lateStores }, { on := 3, ground := Ground.textOnly Departure.lateStoresUnsure }, { on := 4, ground := Ground.phase }, { on := 5, ground := Ground.phase }], guard := none }) rfl (fun K hK => ?_) AllReadyH.nil
            rw [if_pos (by kernel_rfl)]
            refine wp_store_row 25 (.tmp 7) (.tmp 34) rfl B4 (x.cells E1 e1 E2 e2) rfl rfl 25 (View.zero.cells none 0 none 0) b4 (view_size _ _ _ _ _) rfl (View.oneCell _ _ _ _ _) ?_
            dsimp only [Act.put]
            refine name_K fun V hV => ?_
            have b4 : VBox V B4 x E1 e1 E2 e2 := by rw [← hV]; exact b4.setRow x E1 E2 e1 e2
            have b5 : VBox V B5 View.zero none 0 none 0 := by rw [← hV]; exact (heap_setRow _ _ _ _ n54).trans b5
            have r1 : RepV V x E1 e1 E2 e2 := by rw [← hV]; exact r1.rowA _ a14
            have r3 : RepV V x F1 f1 F2 f2 := by rw [← hV]; exact r3.rowA _ a34
            have hv : Has w V w.heap.size x A1 c1 A2 c2 := by rw [← hV]; exact ⟨(heap_setRow _ _ _ _ (Nat.ne_of_lt l4)).trans hHeld.1.box, hHeld.1.rep.rowA _ (ApartV.old h (Nat.le_of_lt l4))⟩
            have hB : Below w.heap.size w V := by rw [← hV]; exact below_setRow hHeld.2 (Nat.le_of_lt l4) _
            refine hK.out _ _ ⟨hv, hB⟩ (fun hHeld => ?_)
            clear hK K hV hv hB
            refine wpAnyH_ready (rs := [7]) (by kernel_rfl) (by simp) ?_
            refine AllReadyH.cons (o := { dst := none, op := Op.store 25 (Operand.tmp 8) (Operand.tmp 36), type := 0, pos := "law.go:63", after := #[{ on := 5, ground := Ground.data }, { on := 3, ground := Ground.data }, { on := 6, ground := Ground.chain }, { on := 0, ground := Ground.phase }, { on := 1, ground := Ground.phase }, { on := 2, ground := Ground.phase }, { on := 3, ground := Ground.phase }, { on := 4, ground := Ground.phase }, { on := 5, ground := Ground.phase }, { on := 6, ground := Ground.phase }], guard := none }) rfl (fun K hK => ?_) AllReadyH.nil
            rw [if_pos (by kernel_rfl)]
            refine wp_store_row 25 (.tmp 8) (.tmp 36) rfl B5 (x.cells F1 f1 F2 f2) rfl rfl 25 (View.zero.cells none 0 none 0) b5 (view_size _ _ _ _ _) rfl (View.oneCell _ _ _ _ _) ?_
            dsimp only [Act.put]
            refine name_K fun V hV => ?_
            have b5 : VBox V B5 x F1 f1 F2 f2 := by rw [← hV]; exact b5.setRow x F1 F2 f1 f2
            have b4 : VBox V B4 x E1 e1 E2 e2 := by rw [← hV]; exact (heap_setRow _ _ _ _ n45x).trans b4
            have r1 : RepV V x E1 e1 E2 e2 := by rw [← hV]; exact r1.rowA _ a15
            have r3 : RepV V x F1 f1 F2 f2 := by rw [← hV]; exact r3.rowA _ a35
            have hv : Has w V w.heap.size x A1 c1 A2 c2 := by rw [← hV]; exact ⟨(heap_setRow _ _ _ _ (Nat.ne_of_lt l5)).trans hHeld.1.box, hHeld.1.rep.rowA _ (ApartV.old h (Nat.le_of_lt l5))⟩
            have hB : Below w.heap.size w V := by rw [← hV]; exact below_setRow hHeld.2 (Nat.le_of_lt l5) _
            refine hK.out _ _ ⟨hv, hB⟩ (fun hHeld => ?_)
            clear hK K hV hv hB
            refine wpAnyH_done (by kernel_rfl) ?_ _
            go_wp2
            go_meet
            case rel => exact ⟨_, _, E1, e1, E2, e2, F1, f1, F2, f2, rfl, rfl, Lib.hid ⟨hHeld.1, ⟨b4, r1⟩, ⟨b5, r3⟩, hHeld.2, l4, l5, n45x, a14, a15, a34, a35⟩⟩
  case rest =>
    obtain ⟨B7, B8, E1, e1, E2, e2, F1, f1, F2, f2, rfl, rfl, hO⟩ := hcut
    obtain ⟨hv, ha, hb8, hB, l7, l8, n78, a17, a18, a37, a38⟩ := hO.out
    clear hO
    have p0 := hv.box.cells.1
    have p73 := ha.box.cells.2.2.2.1
    have z7 := ha.box.frozen
    have p80 := hb8.box.cells.1
    have p82 := hb8.box.cells.2.2.1
    have p83 := hb8.box.cells.2.2.2.1
    have z8 := hb8.box.frozen
    have n87 : B8 ≠ B7 := by omega
    go_upto_region 4 with (fail)
    refine wp_region_held_drew (S := (fun w' => w'.cell? ⟨w.heap.size, 0, none⟩ = some (.int .i64 x.id))) (by kernel_rfl) p0 (fun hHeld => ?_)
    refine wpAnyH_take (i := 0) (oi := { dst := some 37, op := Op.move (Operand.tmp 1), type := 3, pos := "law.go:64", after := #[], guard := none }) (v := ?_) rfl (by kernel_rfl) (by kernel_rfl) (by kernel_rfl) (fun _ _ _ h => h) (Or.inl ⟨by kernel_rfl, ?_⟩) hHeld ?_
    rotate_left
    · intro w hSw; go_simp; try with_reducible rfl
    simp only [Act.put, List.setIfInBounds_toArray, List.set_cons_zero, List.set_cons_succ]
    refine wpAnyH_take (i := 1) (oi := { dst := some 38, op := Op.move (Operand.tmp 1), type := 3, pos := "law.go:64", after := #[{ on := 5, ground := Ground.gcOnly Departure.lateStores }], guard := none }) (v := ?_) rfl (by kernel_rfl) (by kernel_rfl) (by kernel_rfl) (fun _ _ _ h => h) (Or.inl ⟨by kernel_rfl, ?_⟩) hHeld ?_
    rotate_left
    · intro w hSw; go_simp; try with_reducible rfl
    simp only [Act.put, List.setIfInBounds_toArray, List.set_cons_zero, List.set_cons_succ]
    refine wpAnyH_take (i := 2) (oi := { dst := some 39, op := Op.fieldAddr 25 (Operand.tmp 3) 0, type := 0, pos := "law.go:64", after := #[{ on := 7, ground := Ground.gcOnly Departure.lateStores }], guard := none }) (v := ?_) rfl (by kernel_rfl) (by kernel_rfl) (by kernel_rfl) (fun _ _ _ h => h) (Or.inl ⟨by kernel_rfl, ?_⟩) hHeld ?_
    rotate_left
    · intro w hSw; go_simp; try with_reducible rfl
    simp only [Act.put, List.setIfInBounds_toArray, List.set_cons_zero, List.set_cons_succ]
    refine wpAnyH_take (i := 3) (oi := { dst := some 40, op := Op.load 3 (Operand.tmp 39), type := 3, pos := "law.go:64", after := #[{ on := 2, ground := Ground.data }, { on := 7, ground := Ground.gcOnly Departure.lateStores }], guard := none }) (v := ?_) rfl (by kernel_rfl) (by kernel_rfl) (by kernel_rfl) (fun _ _ _ h => h) (Or.inl ⟨by kernel_rfl, ?_⟩) hHeld ?_
    rotate_left
    · intro w hSw; go_simp; try with_reducible rfl
    simp only [Act.put, List.setIfInBounds_toArray, List.set_cons_zero, List.set_cons_succ]
    refine wpAnyH_take (i := 4) (oi := { dst := some 41, op := Op.fieldAddr 25 (Operand.tmp 7) 3, type := 0, pos := "law.go:64", after := #[{ on := 0, ground := Ground.phase }, { on := 1, ground := Ground.textOnly Departure.lateStores }, { on := 2, ground := Ground.textOnly Departure.lateStores }, { on := 3, ground := Ground.textOnly Departure.lateStores }], guard := none }) (v := ?_) rfl (by kernel_rfl) (by kernel_rfl) (by kernel_rfl) (fun _ _ _ h => h) (Or.inl ⟨by kernel_rfl, ?_⟩) hHeld ?_
    rotate_left
    · intro w hSw; go_simp; try with_reducible rfl
    simp only [Act.put, List.setIfInBounds_toArray, List.set_cons_zero, List.set_cons_succ]
    refine wpAnyH_ready (rs := [5]) (by kernel_rfl) (by simp) ?_
    refine AllReadyH.cons (o := { dst := none, op := Op.store 3 (Operand.tmp 41) (Operand.tmp 37), type := 0, pos := "law.go:64", after := #[{ on := 4, ground := Ground.data }, { on := 0, ground := Ground.data }, { on := 0, ground := Ground.phase }, { on := 1, ground := Ground.textOnly Departure.lateStores }, { on := 2, ground := Ground.textOnly Departure.lateStores }, { on := 3, ground := Ground.textOnly Departure.lateStores }], guard := none }) rfl (fun K hK => ?_) AllReadyH.nil
    go_simp
    refine hK.out _ _ ((World.cell?_setCell_far _ _ _ _ (Nat.ne_of_gt l7)).trans hHeld) (fun hHeld => ?_)
    clear hK K
    refine wpAnyH_take (i := 6) (oi := { dst := some 42, op := Op.fieldAddr 25 (Operand.tmp 8) 0, type := 0, pos := "law.go:64", after := #[{ on := 0, ground := Ground.phase }, { on := 1, ground := Ground.phase }, { on := 2, ground := Ground.textOnly Departure.lateStores }, { on := 3, ground := Ground.textOnly Departure.lateStores }, { on := 4, ground := Ground.phase }, { on := 5, ground := Ground.phase }], guard := none }) (v := ?_) rfl (by kernel_rfl) (by kernel_rfl) (by kernel_rfl) (fun _ _ _ h => h) (Or.inl ⟨by kernel_rfl, ?_⟩) hHeld ?_
    rotate_left
    · intro w hSw; go_simp; try with_reducible rfl
    simp only [Act.put, List.setIfInBounds_toArray, List.set_cons_zero, List.set_cons_succ]
    refine wpAnyH_ready (rs := [7]) (by kernel_rfl) (by simp) ?_
    refine AllReadyH.cons (o := { dst := none, op := Op.store 3 (Operand.tmp 42) (Operand.tmp 38), type := 0, pos := "law.go:64", after := #[{ on := 6, ground := Ground.data }, { on := 1, ground := Ground.data }, { on := 5, ground := Ground.chain }, { on := 0, ground := Ground.phase }, { on := 1, ground := Ground.phase }, { on := 2, ground := Ground.textOnly Departure.lateStores }, { on := 3, ground := Ground.textOnly Departure.lateStores }, { on := 4, ground := Ground.phase }, { on := 5, ground := Ground.phase }], guard := none }) rfl (fun K hK => ?_) AllReadyH.nil
    go_simp
    refine hK.out _ _ ((World.cell?_setCell_far _ _ _ _ (Nat.ne_of_gt l8)).trans hHeld) (fun hHeld => ?_)
    clear hK K
    refine wpAnyH_take (i := 8) (oi := { dst := some 43, op := Op.fieldAddr 25 (Operand.tmp 8) 3, type := 0, pos := "law.go:64", after := #[{ on := 0, ground := Ground.phase }, { on := 1, ground := Ground.phase }, { on := 2, ground := Ground.phase }, { on := 3, ground := Ground.phase }, { on := 4, ground := Ground.phase }, { on := 5, ground := Ground.phase }, { on := 6, ground := Ground.phase }, { on := 7, ground := Ground.phase }], guard := none }) (v := ?_) rfl (by kernel_rfl) (by kernel_rfl) (by kernel_rfl) (fun _ _ _ h => h) (Or.inl ⟨by kernel_rfl, ?_⟩) hHeld ?_
    rotate_left
    · intro w hSw; go_simp; try with_reducible rfl
    simp only [Act.put, List.setIfInBounds_toArray, List.set_cons_zero, List.set_cons_succ]
    refine wpAnyH_ready (rs := [9]) (by kernel_rfl) (by simp) ?_
    refine AllReadyH.cons (o := { dst := none, op := Op.store 3 (Operand.tmp 43) (Operand.tmp 40), type := 0, pos := "law.go:64", after := #[{ on := 8, ground := Ground.data }, { on := 3, ground := Ground.data }, { on := 7, ground := Ground.chain }, { on := 0, ground := Ground.phase }, { on := 1, ground := Ground.phase }, { on := 2, ground := Ground.phase }, { on := 3, ground := Ground.phase }, { on := 4, ground := Ground.phase }, { on := 5, ground := Ground.phase }, { on := 6, ground := Ground.phase }, { on := 7, ground := Ground.phase }], guard := none }) rfl (fun K hK => ?_) AllReadyH.nil
    go_simp
    refine hK.out _ _ ((World.cell?_setCell_far _ _ _ _ (Nat.ne_of_gt l8)).trans hHeld) (fun hHeld => ?_)
    clear hK K
    refine wpAnyH_take (i := 10) (oi := { dst := some 44, op := Op.fieldAddr 25 (Operand.tmp 8) 2, type := 0, pos := "law.go:64", after := #[{ on := 0, ground := Ground.phase }, { on := 1, ground := Ground.phase }, { on := 2, ground := Ground.phase }, { on := 3, ground := Ground.phase }, { on := 4, ground := Ground.phase }, { on := 5, ground := Ground.phase }, { on := 6, ground := Ground.phase }, { on := 7, ground := Ground.phase }, { on := 8, ground := Ground.phase }, { on := 9, ground := Ground.phase }], guard := none }) (v := ?_) rfl (by kernel_rfl) (by kernel_rfl) (by kernel_rfl) (fun _ _ _ h => h) (Or.inl ⟨by kernel_rfl, ?_⟩) hHeld ?_
    rotate_left
    · intro w hSw; go_simp; try with_reducible rfl
    simp only [Act.put, List.setIfInBounds_toArray, List.set_cons_zero, List.set_cons_succ]
    refine wpAnyH_ready (rs := [11]) (by kernel_rfl) (by simp) ?_
    refine AllReadyH.cons (o := { dst := none, op := Op.store 22 (Operand.tmp 44) (Operand.const (Value.slice none 0 0)), type := 0, pos := "law.go:64", after := #[{ on := 10, ground := Ground.data }, { on := 9, ground := Ground.chain }, { on := 0, ground := Ground.phase }, { on := 1, ground := Ground.phase }, { on := 2, ground := Ground.phase }, { on := 3, ground := Ground.phase }, { on := 4, ground := Ground.phase }, { on := 5, ground := Ground.phase }, { on := 6, ground := Ground.phase }, { on := 7, ground := Ground.phase }, { on := 8, ground := Ground.phase }, { on := 9, ground := Ground.phase }], guard := none }) rfl (fun K hK => ?_) AllReadyH.nil
    go_simp
    refine hK.out _ _ ((World.cell?_setCell_far _ _ _ _ (Nat.ne_of_gt l8)).trans hHeld) (fun hHeld => ?_)
    clear hK K
    refine wpAnyH_done (by kernel_rfl) ?_ _
    go_upto_region 5 with (fail)
    refine name_world fun W4 hW4 => ?_
    have h4 : Has w W4 w.heap.size x A1 c1 A2 c2 ∧ Has w W4 B7 (x.withPred n) E1 e1 E2 e2 ∧ Has w W4 B8 (partF x n 0) F1 f1 none 0 ∧ Below w.heap.size w W4 := by
      rw [← hW4]
      have hz := own_set h hv ha hb8 hB l7 l8 n78 a17 a18 a37 a38 n
      first | exact own_set h (hv.below ((Below.refl _ _).drew)) (ha.below ((Below.refl _ _).drew)) (hb8.below ((Below.refl _ _).drew)) hB.drew l7 l8 n78 a17 a18 a37 a38 n | exact ⟨hz.1.below ((Below.refl _ _).drew), hz.2.1.below ((Below.refl _ _).drew), hz.2.2.1.below ((Below.refl _ _).drew), hz.2.2.2.drew⟩
    have HV := Lib.hid h4
    clear hW4 hv ha hb8 hB p0 p73 z7 p80 p82 p83 z8 h4
    go_wp2
    go_loopw [9] (fun t9 wr => ∃ j : Nat, j ≤ 16 ∧ t9 = .int .i64 j ∧ Hid (Has w wr w.heap.size x A1 c1 A2 c2 ∧ Has w wr B7 (x.withPred n) E1 e1 E2 e2 ∧ Has w wr B8 (partF x n j) F1 f1 none 0 ∧ Below w.heap.size w wr)) (fun t9 _ => 16 - (intOf t9).toNat)
    case atStart => exact ⟨0, by omega, rfl, HV⟩
    case round =>
      clear HV
      obtain ⟨j, hj, rfl, hV⟩ := hrel
      by_cases hlt : j < 16
      · have p1 := hV.out.2.2.1.box.finger hlt
        have p2 := hV.out.2.2.1.box.frozen
        go_wp2
        go_roundw
        case rel => exact ⟨j + 1, by omega, by go_num, Lib.hid ⟨⟨hV.out.1.box.other (p := ⟨B8, 4 + j, none⟩) (Nat.ne_of_lt l8) _, hV.out.1.rep.setA (p := ⟨B8, 4 + j, none⟩) _ (ApartV.old h (Nat.le_of_lt l8))⟩, ⟨hV.out.2.1.box.other (p := ⟨B8, 4 + j, none⟩) n78 _, RepV.setA (x := (x.withPred n)) (p := ⟨B8, 4 + j, none⟩) hV.out.2.1.rep _ a18⟩, ⟨by rw [← partF_next]; exact hV.out.2.2.1.box.setF hlt _, (hV.out.2.2.1.rep.base.set2 (⟨B8, 4 + j, none⟩ : Addr) (.int .i64 (-1)) a38.1), Sl.nil _⟩, hV.out.2.2.2.setCell (p := ⟨B8, 4 + j, none⟩) (Nat.le_of_lt l8) _⟩⟩
        case measure => simp [intOf]; omega
      · obtain rfl : j = 16 := by omega
        have hf : Has w wr B8 (faceV x n) F1 f1 none 0 := ⟨hV.out.2.2.1.box, hV.out.2.2.1.rep.base, Sl.nil _⟩
        have fo := face_owns hr hn h3 k
        go_upto_region 9 with (fail)
        refine wp_region_held_drew (S := (fun w' => Has w w' w.heap.size x A1 c1 A2 c2 ∧ Has w w' B7 (x.withPred n) E1 e1 E2 e2 ∧ Has w w' B8 (faceV x n) F1 f1 none 0 ∧ Below w.heap.size w w')) (by kernel_rfl) ⟨hV.out.1.below ((Below.refl _ _).drew), hV.out.2.1.below ((Below.refl _ _).drew), hf.below ((Below.refl _ _).drew), hV.out.2.2.2.drew⟩ (fun hHeld => ?_)
        refine wpAnyH_take (i := 0) (oi := { dst := some 52, op := Op.load 25 (Operand.tmp 7), type := 25, pos := "law.go:68", after := #[], guard := none }) (v := .agg ((x.withPred n).cells E1 e1 E2 e2)) rfl (by kernel_rfl) (by kernel_rfl) (by kernel_rfl) (fun _ _ _ h => h) (yields_view (t := 7) (x.withPred n) E1 E2 e1 e2 B7 (by kernel_rfl) rfl (fun w h => h.2.1.box)) hHeld ?_
        simp only [Act.put, List.setIfInBounds_toArray, List.set_cons_zero, List.set_cons_succ]
        refine wpAnyH_take (i := 1) (oi := { dst := some 53, op := Op.move (Operand.tmp 2), type := 3, pos := "law.go:68", after := #[], guard := none }) (v := ?_) rfl (by kernel_rfl) (by kernel_rfl) (by kernel_rfl) (fun _ _ _ h => h) (Or.inl ⟨by kernel_rfl, ?_⟩) hHeld ?_
        rotate_left
        · intro w hSw; go_simp; try with_reducible rfl
        simp only [Act.put, List.setIfInBounds_toArray, List.set_cons_zero, List.set_cons_succ]
        refine wpAnyH_take (i := 3) (oi := { dst := some 55, op := Op.load 25 (Operand.tmp 8), type := 25, pos := "law.go:68", after := #[], guard := none }) (v := .agg ((faceV x n).cells F1 f1 none 0)) rfl (by kernel_rfl) (by kernel_rfl) (by kernel_rfl) (fun _ _ _ h => h) (yields_view (t := 8) (faceV x n) F1 none f1 0 B8 (by kernel_rfl) rfl (fun w h => h.2.2.1.box)) hHeld ?_
        simp only [Act.put, List.setIfInBounds_toArray, List.set_cons_zero, List.set_cons_succ]
        refine wpAnyH_take (i := 4) (oi := { dst := some 56, op := Op.move (Operand.tmp 2), type := 3, pos := "law.go:68", after := #[], guard := none }) (v := ?_) rfl (by kernel_rfl) (by kernel_rfl) (by kernel_rfl) (fun _ _ _ h => h) (Or.inl ⟨by kernel_rfl, ?_⟩) hHeld ?_
        rotate_left
        · intro w hSw; go_simp; try with_reducible rfl
        simp only [Act.put, List.setIfInBounds_toArray, List.set_cons_zero, List.set_cons_succ]
        refine wpAnyH_ready (rs := [2]) (by kernel_rfl) (by simp) ?_
        refine AllReadyH.cons (o := { dst := some 54, op := Op.call { callee := Callee.value (Operand.func 25), args := #[Operand.tmp 52, Operand.tmp 53], argTypes := #[25, 3] }, type := 4, pos := "law.go:68", after := #[{ on := 0, ground := Ground.data }, { on := 1, ground := Ground.data }], guard := none }) rfl (fun K hK => ?_) AllReadyH.nil
        go_simp
        go_wp2_with (go_at_call 25; refine (rect_Owns (x.withPred n) E1 E2 e1 e2 _ hHeld.2.1.rep k).mono ?_; rintro e V ⟨rfl, hb⟩)
        refine hK.out _ _ ⟨hHeld.1.below hb, hHeld.2.1.below hb, hHeld.2.2.1.below hb, hHeld.2.2.2.trans (hb.mono hHeld.2.2.2.size)⟩ (fun hHeld => ?_)
        clear hK K
        refine wpAnyH_ready (rs := [5]) (by kernel_rfl) (by simp) ?_
        refine AllReadyH.cons (o := { dst := some 57, op := Op.call { callee := Callee.value (Operand.func 25), args := #[Operand.tmp 55, Operand.tmp 56], argTypes := #[25, 3] }, type := 4, pos := "law.go:68", after := #[{ on := 3, ground := Ground.data }, { on := 4, ground := Ground.data }, { on := 2, ground := Ground.chain }], guard := none }) rfl (fun K hK => ?_) AllReadyH.nil
        go_simp
        go_wp2_with (go_at_call 25; refine (rect_Owns (faceV x n) F1 none f1 0 _ hHeld.2.2.1.rep k).mono ?_; rintro e V ⟨rfl, hb⟩)
        refine hK.out _ _ ⟨hHeld.1.below hb, hHeld.2.1.below hb, hHeld.2.2.1.below hb, hHeld.2.2.2.trans (hb.mono hHeld.2.2.2.size)⟩ (fun hHeld => ?_)
        clear hK K
        refine wpAnyH_take (i := 6) (oi := { dst := some 58, op := Op.binOp BinOp.eql 4 (Operand.tmp 54) (Operand.tmp 57) 4, type := 4, pos := "law.go:68", after := #[{ on := 2, ground := Ground.data }, { on := 5, ground := Ground.data }], guard := none }) (v := .bool false) rfl (by kernel_rfl) (by kernel_rfl) (by kernel_rfl) (fun _ _ _ h => h) (Or.inl ⟨by kernel_rfl, ?_⟩) hHeld ?_
        · intro w hSw; go_simp; all_goals (first | rfl | simp [fo])
        simp only [Act.put, List.setIfInBounds_toArray, List.set_cons_zero, List.set_cons_succ]
        refine wpAnyH_done (by kernel_rfl) ?_ _
        clear hV hf
        go_upto_region 11 with (fail)
        refine wp_region_lit ?_
        (refine wpList_load_view (t := 3) x A1 A2 c1 c2 w.heap.size ?hg ?hw ?hx ?_; (case hg => exact hHeld.1.box); (case hw => rfl); (case hx => rfl))
        go_upto_region 12 with (first | (go_at_call 23; refine (rect_Notify x A1 A2 c1 c2 _ (hHeld.1.rep.below ((Below.refl _ V).alloc (Nat.le_refl _) _)) _ _ [n] (Sl.lit V [n] (by simp))).mono ?_; rintro e W7 ⟨U1, u1, U2, u2, rfl, hu7, hb7, -, -⟩) | (refine wpList_store_row rfl 25 (.tmp 10) (.tmp 62) rfl W7.heap.size ((notifyV x [n]).cells U1 u1 U2 u2) rfl rfl 25 (View.zero.cells none 0 none 0) (VBox.new W7 View.zero none 0 none 0) (view_size _ _ _ _ _) rfl (View.oneCell _ _ _ _ _) ?_))
        refine name_world fun W8 hW8 => ?_
        obtain ⟨hu, hb8⟩ := has_new (w := w) hu7 hW8
        have hb67 := ((Below.refl _ V).alloc (Nat.le_refl _) _).trans (hb7.mono (by simp))
        have hv := (hHeld.1.below hb67).below hb8
        have hB := (hHeld.2.2.2.trans (hb67.mono hHeld.2.2.2.size)).trans (hb8.mono (hHeld.2.2.2.trans (hb67.mono hHeld.2.2.2.size)).size)
        clear hW8 hb67 hb7 hb8 hu7 hHeld
        obtain ⟨B11, hB11⟩ : ∃ B, W7.heap.size = B := ⟨_, rfl⟩
        rw [hB11] at hu ⊢
        clear hB11
        have p0 := hv.box.cells.1
        have q3 := hv.box.cells.2.2.2.1
        have fi := told_owns_id hr hn h3
        refine ownlaw_cases hr hn h3 k _ ?_ ?_ ?_ <;> intros
        all_goals (go_wp2_with (first | (refine wpList_load_view (t := 10) (notifyV x [n]) U1 U2 u1 u2 B11 ?hg ?hw ?hx ?_; (case hg => exact hu.box); (case hw => rfl); (case hx => rfl)) | (refine wpList_load_view (t := 3) x A1 A2 c1 c2 w.heap.size ?hg ?hw ?hx ?_; (case hg => exact hv.box); (case hw => rfl); (case hx => rfl)) | (go_at_call_of 25 U1; refine (rect_Owns (notifyV x [n]) U1 U2 u1 u2 _ hu.rep _).mono ?_; rintro e V1 ⟨rfl, hb⟩; have hv := hv.below hb; have hu := hu.below hb; have hB := hB.trans (hb.mono hB.size); have p0 := hv.box.cells.1) | (go_at_call_of 25 A1; refine (rect_Owns x A1 A2 c1 c2 _ hv.rep _).mono ?_; rintro e V2 ⟨rfl, hb⟩; have hv := hv.below hb; have hu := hu.below hb; have hB := hB.trans (hb.mono hB.size); have p0 := hv.box.cells.1) | (go_at_call 17; refine (law15_wakes _).mono ?_; rintro e W10 ⟨rfl, hb10⟩; have hB10 := hB.trans (hb10.mono hB.size))))
        all_goals (go_ret; exact ⟨rfl, hB10⟩)

set_option maxRecDepth 100000 in
set_option maxHeartbeats 1000000 in
theorem law_RectOwns_great (x : View) (A1 A2 : Option Addr) (c1 c2 : Nat) (n k : Int) (w : World) (hg : greatV x = true) :
    Calls Try.prog 5 #[x.v A1 c1 A2 c2, .int .i64 n, .int .i64 k] w fun e w' => e = .returned (.bool true) ∧ Below w.heap.size w w' := by
  unfold View.v
  go_enter Try.func5, Try.ntmps5
  go_upto_region 1 with (fail)
  refine name_world fun W0 hW0 => ?_
  have hT := one_start hW0
  clear hW0
  have hv0 := hT
  have hB0 := hT.b
  clear hT
  go_wp2_with (first | (refine wpList_load_view (t := 3) x A1 A2 c1 c2 w.heap.size ?hg ?hw ?hx ?_; (case hg => exact hv0.box); (case hw => rfl); (case hx => rfl)) | (go_at_call 16; refine (r15_Great x A1 A2 c1 c2 _).mono ?_; rintro e W1 ⟨he, hb1⟩; rw [hg] at he; subst he; have hv1 := hv0.below hb1; have hB1 := hB0.trans (hb1.mono hB0.size)) | (go_at_call 17; refine (law15_wakes _).mono ?_; rintro e W9 ⟨rfl, hb9⟩; have hB9 := hB1.trans (hb9.mono hB1.size)))
  go_ret
  exact ⟨rfl, hB9⟩

set_option maxRecDepth 100000 in
set_option maxHeartbeats 1000000 in
theorem law_RectOwns_bad (x : View) (A1 A2 : Option Addr) (c1 c2 : Nat) (n k : Int) (w : World) (h : RepV w x A1 c1 A2 c2) (hg : greatV x = false) (hr : rightV x = false) :
    Calls Try.prog 5 #[x.v A1 c1 A2 c2, .int .i64 n, .int .i64 k] w fun e w' => e = .returned (.bool true) ∧ Below w.heap.size w w' := by
  unfold View.v
  go_enter Try.func5, Try.ntmps5
  go_upto_region 1 with (fail)
  refine name_world fun W0 hW0 => ?_
  have hT := one_start hW0
  clear hW0
  have hv0 : Has w W0 w.heap.size x A1 c1 A2 c2 := ⟨hT.box, h.below hT.b⟩
  have hB0 := hT.b
  clear hT
  go_wp2_with (first | (refine wpList_load_view (t := 3) x A1 A2 c1 c2 w.heap.size ?hg ?hw ?hx ?_; (case hg => exact hv0.box); (case hw => rfl); (case hx => rfl)) | (go_at_call 16; refine (r15_Great x A1 A2 c1 c2 _).mono ?_; rintro e W1 ⟨he, hb1⟩; rw [hg] at he; subst he; have hv1 := hv0.below hb1; have hB1 := hB0.trans (hb1.mono hB0.size)) | (refine wpList_load_view (t := 3) x A1 A2 c1 c2 w.heap.size ?hg ?hw ?hx ?_; (case hg => exact hv1.box); (case hw => rfl); (case hx => rfl)) | (go_at_call 29; refine (r13_Right x A1 A2 c1 c2 _ hv1.rep.base hv1.rep.list).mono ?_; rintro e W2 ⟨he, hb2⟩; rw [hr] at he; subst he; have hv2 := hv1.below hb2; have hB2 := hB1.trans (hb2.mono hB1.size); have p0 := hv2.box.cells.1) | (go_at_call 17; refine (law15_wakes _).mono ?_; rintro e W9 ⟨rfl, hb9⟩; have hB9 := hB2.trans (hb9.mono hB2.size)))
  go_ret
  exact ⟨rfl, hB9⟩

set_option maxRecDepth 100000 in
set_option maxHeartbeats 1000000 in
theorem law_RectOwns_low (x : View) (A1 A2 : Option Addr) (c1 c2 : Nat) (n k : Int) (w : World) (h : RepV w x A1 c1 A2 c2) (hg : greatV x = false) (hr : rightV x = true) (h1 : decide (n < 0) = true) :
    Calls Try.prog 5 #[x.v A1 c1 A2 c2, .int .i64 n, .int .i64 k] w fun e w' => e = .returned (.bool true) ∧ Below w.heap.size w w' := by
  unfold View.v
  go_enter Try.func5, Try.ntmps5
  go_upto_region 1 with (fail)
  refine name_world fun W0 hW0 => ?_
  have hT := one_start hW0
  clear hW0
  have hv0 : Has w W0 w.heap.size x A1 c1 A2 c2 := ⟨hT.box, h.below hT.b⟩
  have hB0 := hT.b
  clear hT
  go_wp2_with (first | (refine wpList_load_view (t := 3) x A1 A2 c1 c2 w.heap.size ?hg ?hw ?hx ?_; (case hg => exact hv0.box); (case hw => rfl); (case hx => rfl)) | (go_at_call 16; refine (r15_Great x A1 A2 c1 c2 _).mono ?_; rintro e W1 ⟨he, hb1⟩; rw [hg] at he; subst he; have hv1 := hv0.below hb1; have hB1 := hB0.trans (hb1.mono hB0.size)) | (refine wpList_load_view (t := 3) x A1 A2 c1 c2 w.heap.size ?hg ?hw ?hx ?_; (case hg => exact hv1.box); (case hw => rfl); (case hx => rfl)) | (go_at_call 29; refine (r13_Right x A1 A2 c1 c2 _ hv1.rep.base hv1.rep.list).mono ?_; rintro e W2 ⟨he, hb2⟩; rw [hr] at he; subst he; have hv2 := hv1.below hb2; have hB2 := hB1.trans (hb2.mono hB1.size); have p0 := hv2.box.cells.1) | (go_at_call 17; refine (law15_wakes _).mono ?_; rintro e W9 ⟨rfl, hb9⟩; have hB9 := hB2.trans (hb9.mono hB2.size)))
  go_ret
  exact ⟨rfl, hB9⟩

set_option maxRecDepth 100000 in
set_option maxHeartbeats 1000000 in
theorem law_RectOwns_high (x : View) (A1 A2 : Option Addr) (c1 c2 : Nat) (n k : Int) (w : World) (h : RepV w x A1 c1 A2 c2) (hg : greatV x = false) (hr : rightV x = true) (h1 : decide (n < 0) = false) (h2 : decide (65536 ≤ n) = true) :
    Calls Try.prog 5 #[x.v A1 c1 A2 c2, .int .i64 n, .int .i64 k] w fun e w' => e = .returned (.bool true) ∧ Below w.heap.size w w' := by
  unfold View.v
  go_enter Try.func5, Try.ntmps5
  go_upto_region 1 with (fail)
  refine name_world fun W0 hW0 => ?_
  have hT := one_start hW0
  clear hW0
  have hv0 : Has w W0 w.heap.size x A1 c1 A2 c2 := ⟨hT.box, h.below hT.b⟩
  have hB0 := hT.b
  clear hT
  go_wp2_with (first | (refine wpList_load_view (t := 3) x A1 A2 c1 c2 w.heap.size ?hg ?hw ?hx ?_; (case hg => exact hv0.box); (case hw => rfl); (case hx => rfl)) | (go_at_call 16; refine (r15_Great x A1 A2 c1 c2 _).mono ?_; rintro e W1 ⟨he, hb1⟩; rw [hg] at he; subst he; have hv1 := hv0.below hb1; have hB1 := hB0.trans (hb1.mono hB0.size)) | (refine wpList_load_view (t := 3) x A1 A2 c1 c2 w.heap.size ?hg ?hw ?hx ?_; (case hg => exact hv1.box); (case hw => rfl); (case hx => rfl)) | (go_at_call 29; refine (r13_Right x A1 A2 c1 c2 _ hv1.rep.base hv1.rep.list).mono ?_; rintro e W2 ⟨he, hb2⟩; rw [hr] at he; subst he; have hv2 := hv1.below hb2; have hB2 := hB1.trans (hb2.mono hB1.size); have p0 := hv2.box.cells.1) | (go_at_call 17; refine (law15_wakes _).mono ?_; rintro e W9 ⟨rfl, hb9⟩; have hB9 := hB2.trans (hb9.mono hB2.size)))
  go_ret
  exact ⟨rfl, hB9⟩

set_option maxRecDepth 100000 in
set_option maxHeartbeats 1000000 in
theorem law_RectOwns_self (x : View) (A1 A2 : Option Addr) (c1 c2 : Nat) (n k : Int) (w : World) (h : RepV w x A1 c1 A2 c2) (hg : greatV x = false) (hr : rightV x = true) (h1 : decide (n < 0) = false) (h2 : decide (65536 ≤ n) = false) (h3 : (n == x.id) = true) :
    Calls Try.prog 5 #[x.v A1 c1 A2 c2, .int .i64 n, .int .i64 k] w fun e w' => e = .returned (.bool true) ∧ Below w.heap.size w w' := by
  unfold View.v
  go_enter Try.func5, Try.ntmps5
  go_upto_region 1 with (fail)
  refine name_world fun W0 hW0 => ?_
  have hT := one_start hW0
  clear hW0
  have hv0 : Has w W0 w.heap.size x A1 c1 A2 c2 := ⟨hT.box, h.below hT.b⟩
  have hB0 := hT.b
  clear hT
  go_wp2_with (first | (refine wpList_load_view (t := 3) x A1 A2 c1 c2 w.heap.size ?hg ?hw ?hx ?_; (case hg => exact hv0.box); (case hw => rfl); (case hx => rfl)) | (go_at_call 16; refine (r15_Great x A1 A2 c1 c2 _).mono ?_; rintro e W1 ⟨he, hb1⟩; rw [hg] at he; subst he; have hv1 := hv0.below hb1; have hB1 := hB0.trans (hb1.mono hB0.size)) | (refine wpList_load_view (t := 3) x A1 A2 c1 c2 w.heap.size ?hg ?hw ?hx ?_; (case hg => exact hv1.box); (case hw => rfl); (case hx => rfl)) | (go_at_call 29; refine (r13_Right x A1 A2 c1 c2 _ hv1.rep.base hv1.rep.list).mono ?_; rintro e W2 ⟨he, hb2⟩; rw [hr] at he; subst he; have hv2 := hv1.below hb2; have hB2 := hB1.trans (hb2.mono hB1.size); have p0 := hv2.box.cells.1) | (go_at_call 17; refine (law15_wakes _).mono ?_; rintro e W9 ⟨rfl, hb9⟩; have hB9 := hB2.trans (hb9.mono hB2.size)))
  go_ret
  exact ⟨rfl, hB9⟩

theorem law_RectOwns (x : View) (A1 A2 : Option Addr) (c1 c2 : Nat) (n k : Int) (w : World) (h : greatV x = false → RepV w x A1 c1 A2 c2) :
    Calls Try.prog 5 #[x.v A1 c1 A2 c2, .int .i64 n, .int .i64 k] w fun e w' => e = .returned (.bool true) ∧ Below w.heap.size w w' := by
  cases hg : greatV x with
  | true => exact law_RectOwns_great x A1 A2 c1 c2 n k w hg
  | false =>
    cases hr : rightV x with
    | false => exact law_RectOwns_bad x A1 A2 c1 c2 n k w (h hg) hg hr
    | true =>
      cases h1 : decide (n < 0) with
      | true => exact law_RectOwns_low x A1 A2 c1 c2 n k w (h hg) hg hr h1
      | false =>
        cases h2 : decide (65536 ≤ n) with
        | true => exact law_RectOwns_high x A1 A2 c1 c2 n k w (h hg) hg hr h1 h2
        | false =>
          cases h3 : (n == x.id) with
          | true => exact law_RectOwns_self x A1 A2 c1 c2 n k w (h hg) hg hr h1 h2 h3
          | false => exact law_RectOwns_main x A1 A2 c1 c2 n k w (h hg) hg hr h1 h2 h3
end Go.Proofs.Ytbjgfcempfpfcaa
