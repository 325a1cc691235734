/- Contracts: item.Cmp, item.Newer, item.Gone; what is great. -/
import Derived.Test.YtbjgfcempfpfcaaDA
import Derived.Test.YtbjgfcempfpfcaaZ
namespace Go.Proofs.Ytbjgfcempfpfcaa
open Go.RowKit Go.Shelf

def IBox (W : World) (B : Nat) (x : It) : Prop := W.heap[B]? = some (.cells x.cells 40 (0, 0))
section
variable {W W' : World} {B : Nat} {x : It}
theorem IBox.lt (h : IBox W B x) : B < W.heap.size := (Array.getElem?_eq_some_iff.1 h).1
theorem IBox.cells (h : IBox W B x) : W.cell? ⟨B, 0, none⟩ = some (.string x.key) ∧ W.cell? ⟨B, 1, none⟩ = some (.int .i64 x.value) ∧ W.cell? ⟨B, 2, none⟩ = some (.int .i64 x.version) ∧ W.cell? ⟨B, 3, none⟩ = some (.bool x.gone) := by
  unfold IBox at h
  simp [World.cell?, h, It.cells]
theorem IBox.frozen (h : IBox W B x) : ∀ o, W.frozen? ⟨B, o, none⟩ = false := by
  intro o
  unfold IBox at h
  simp [World.frozen?, h]
theorem IBox.new (w : World) (x : It) : IBox (w.alloc (.cells x.cells 40)) w.heap.size x := heap_alloc_new w _
theorem IBox.below (h : IBox W B x) (hb : Below W.heap.size W W') : IBox W' B x := (hb.block B h.lt).trans h
theorem IBox.other (h : IBox W B x) {p : Addr} (hp : B ≠ p.block) (u : Value) : IBox (W.setCell p u) B x := (Below.heap_setCell W p u B hp).trans h
end
def It.bare (x : It) : It := ⟨⟨#[]⟩, x.value, x.version, x.gone⟩
theorem IBox.setBare {W : World} {B : Nat} {x : It} (h : IBox W B x) : IBox (W.setCell ⟨B, 0, none⟩ (.string ⟨#[]⟩)) B x.bare := heap_setCell_at W B 0 _ _ _ _ h
theorem item_size : (Try.prog.info? 40).map (·.size) = some 4 := by kernel_rfl
theorem yields_item {ops : Array Oper} {S : World → Prop} {a : Act} {dst : Option Tmp} {ty : TypeId} {pos : String} {af : Array Edge} {t : Nat} {gd : Option (Nat × Bool)} (x : It) (B : Nat)
    (hw : Region.wanted { dst := dst, op := .load 40 (.tmp t), type := ty, pos := pos, after := af, guard := gd } (yielded ops a.tmps) = true) (hx : a.eval (.tmp t) = .pointer (some ⟨B, 0, none⟩)) (hS : ∀ w, S w → IBox w B x) :
    YieldsIf Try.prog ops S { dst := dst, op := .load 40 (.tmp t), type := ty, pos := pos, after := af, guard := gd } (.agg x.cells) a :=
  .inl ⟨hw, fun w h => by
    unfold execOp
    simp only [hx, Instr.loadAt, Instr.sureAddr, Sem.run_bind, Sem.run_pure, Result.andThen_ok, run_loadVar_row w B 40 40 x.cells (0, 0) _ (hS w h) Try.underlying40 rfl item_size]⟩
theorem wpList_load_item {ops : Array Oper} {rest : List Oper} {a : Act} {w : World} {Q : Exit → Act → World → Prop} {dst : Option Tmp} {ty : TypeId} {pos : String} {af : Array Edge} {t : Nat} {gd : Option (Nat × Bool)} (x : It) (B : Nat)
    (hg : IBox w B x)
    (hw : Region.wanted { dst := dst, op := .load 40 (.tmp t), type := ty, pos := pos, after := af, guard := gd } (yielded ops a.tmps) = true) (hx : a.eval (.tmp t) = .pointer (some ⟨B, 0, none⟩)) (h : wpList Try.prog ops Q rest (a.put dst (.agg x.cells)) w) :
    wpList Try.prog ops Q ({ dst := dst, op := .load 40 (.tmp t), type := ty, pos := pos, after := af, guard := gd } :: rest) a w :=
  wpList_load_row_g hw 40 (.tmp t) rfl B hx 40 x.cells (0, 0) _ hg Try.underlying40 rfl item_size h

theorem exec_eql_item {o : Oper} {a : Act} {x y : Operand} {t : TypeId} (ho : o.op = .binOp .eql 40 x y t) (p q : It) (hx : a.eval x = .agg p.cells) (hy : a.eval y = .agg q.cells) (w : World) :
    (execOp a.eval o).run Try.prog w = .ok (.value (.bool (p.same q))) w := by
  have hm : Try.prog.eqGuardType Try.prog.depth 40 = false := by kernel_rfl
  unfold execOp
  simp only [ho, hx, hy, Sem.run_bind, Sem.run_pure, Result.andThen_ok, run_eqGuard_agg (hm := hm), run_eql_struct]
  rw [show p.cells = #[.string p.key, .int .i64 p.value, .int .i64 p.version, .bool p.gone] from rfl, show q.cells = #[.string q.key, .int .i64 q.value, .int .i64 q.version, .bool q.gone] from rfl, eq_item]
  rfl
theorem exec_neq_item {o : Oper} {a : Act} {x y : Operand} {t : TypeId} (ho : o.op = .binOp .neq 40 x y t) (p q : It) (hx : a.eval x = .agg p.cells) (hy : a.eval y = .agg q.cells) (w : World) :
    (execOp a.eval o).run Try.prog w = .ok (.value (.bool (!p.same q))) w := by
  have hm : Try.prog.eqGuardType Try.prog.depth 40 = false := by kernel_rfl
  unfold execOp
  simp only [ho, hx, hy, Sem.run_bind, Sem.run_pure, Result.andThen_ok, run_eqGuard_agg (hm := hm), run_neq_struct]
  rw [show p.cells = #[.string p.key, .int .i64 p.value, .int .i64 p.version, .bool p.gone] from rfl, show q.cells = #[.string q.key, .int .i64 q.value, .int .i64 q.version, .bool q.gone] from rfl, eq_item]
  rfl
theorem wpList_eql_item {ops : Array Oper} {rest : List Oper} {o : Oper} {a : Act} {w : World} {Q : Exit → Act → World → Prop} (p q : It) {x y : Operand} {t : TypeId} (ho : o.op = .binOp .eql 40 x y t) (hw : Region.wanted o (yielded ops a.tmps) = true)
    (hx : a.eval x = .agg p.cells) (hy : a.eval y = .agg q.cells) (h : wpList Try.prog ops Q rest (a.put o.dst (.bool (p.same q))) w) : wpList Try.prog ops Q (o :: rest) a w :=
  wpList_step fun _ hK => by
    rw [if_pos hw]
    unfold Oper.wp
    rw [exec_eql_item ho p q hx hy w]
    exact hK _ _ h

def cmpI (a b : It) : Int := orI [cmpInt a.version b.version, cmpInt a.value b.value, cmpInt a.goneI b.goneI]
theorem cmp_same {a b : It} (h : a.bare.same b.bare = true) : cmpI a b = 0 := by
  simp only [It.same, It.bare, Bool.and_eq_true, beq_iff_eq] at h
  obtain ⟨-, h1, h2, h3⟩ := h
  simp [cmpI, orI, cmpInt, It.goneI, h1, h2, h3]
set_option maxRecDepth 100000 in
set_option maxHeartbeats 1000000 in
theorem item_Cmp (a b : It) (w : World) : Calls Try.prog 32 #[a.v, b.v] w fun e w' => e = .returned (.int .i64 (cmpI a b)) ∧ Below w.heap.size w w' := by
  unfold It.v
  go_enter Try.func32, Try.ntmps32
  go_upto_region 1 with (fail)
  refine name_world fun W0 hW0 => ?_
  have h0 : IBox W0 w.heap.size a := by rw [← hW0]; exact (IBox.new w a).below (one_more _)
  have h1 : IBox W0 (w.heap.size + 1) b := by rw [← hW0]; have := IBox.new (w.alloc (.cells a.cells 40)) b; simpa using this
  have hB : Below w.heap.size w W0 := by rw [← hW0]; exact (one_more _).trans ((one_more _).mono (one_more (w := w) _).size)
  clear hW0
  have p0 := h0.cells.1
  have p1 := h1.cells.1
  have q0 := h0.frozen
  have q1 := h1.frozen
  go_upto_region 2 with (fail)
  refine name_world fun W2 hW2 => ?_
  have hne : w.heap.size ≠ w.heap.size + 1 := by omega
  have g0 : IBox W2 w.heap.size a.bare := by rw [← hW2]; exact h0.setBare.other (p := ⟨w.heap.size + 1, 0, none⟩) hne _
  have g1 : IBox W2 (w.heap.size + 1) b.bare := by rw [← hW2]; exact (h1.other (p := ⟨w.heap.size, 0, none⟩) hne.symm _).setBare
  have hB2 : Below w.heap.size w W2 := by rw [← hW2]; exact (hB.setCell (p := ⟨w.heap.size, 0, none⟩) (Nat.le_refl _) _).setCell (p := ⟨w.heap.size + 1, 0, none⟩) (Nat.le_succ _) _
  clear hW2 p0 p1 q0 q1 h0 h1 hB hne
  cases es : a.bare.same b.bare with
  | true =>
    have hc := Lib.hid (cmp_same es)
    go_wp2_with (first | (refine wpList_load_item (t := 2) a.bare w.heap.size ?hg ?hw ?hx ?_; (case hg => exact g0); (case hw => rfl); (case hx => rfl)) | (refine wpList_load_item (t := 3) b.bare (w.heap.size + 1) ?hg ?hw ?hx ?_; (case hg => exact g1); (case hw => rfl); (case hx => rfl)) | (refine wpList_eql_item a.bare b.bare rfl ?hw ?hx ?hy ?_; (case hw => rfl); (case hx => rfl); (case hy => rfl); rw [es]))
    go_ret
    exact ⟨by rw [hc.out]; rfl, hB2⟩
  | false =>
    go_upto_region 4 with (first | (refine wpList_load_item (t := 2) a.bare w.heap.size ?hg ?hw ?hx ?_; (case hg => exact g0); (case hw => rfl); (case hx => rfl)) | (refine wpList_load_item (t := 3) b.bare (w.heap.size + 1) ?hg ?hw ?hx ?_; (case hg => exact g1); (case hw => rfl); (case hx => rfl)) | (refine wpList_eql_item a.bare b.bare rfl ?hw ?hx ?hy ?_; (case hw => rfl); (case hx => rfl); (case hy => rfl); rw [es]))
    refine wp_region_held_drew (S := (fun w' => IBox w' w.heap.size a.bare ∧ IBox w' (w.heap.size + 1) b.bare ∧ Below w.heap.size w w')) (by kernel_rfl) ⟨g0.below (Below.refl _ _).drew, g1.below (Below.refl _ _).drew, hB2.drew⟩ (fun hHeld => ?_)
    refine wpAnyH_take (i := 0) (oi := { dst := some 10, op := Op.fieldAddr 40 (Operand.tmp 2) 2, type := 0, pos := "item.go:27", after := #[], guard := none }) (v := ?_) rfl (by kernel_rfl) (by kernel_rfl) (by kernel_rfl) (fun _ _ _ h => h) (Or.inl ⟨by kernel_rfl, ?_⟩) hHeld ?_
    rotate_left
    · intro w hSw; go_simp; try with_reducible rfl
    simp only [Act.put, List.setIfInBounds_toArray, List.set_cons_zero, List.set_cons_succ]
    refine wpAnyH_take (i := 1) (oi := { dst := some 11, op := Op.load 3 (Operand.tmp 10), type := 3, pos := "item.go:27", after := #[{ on := 0, ground := Ground.data }], guard := none }) (v := ?_) rfl (by kernel_rfl) (by kernel_rfl) (by kernel_rfl) (fun _ _ _ h => h) (Or.inl ⟨by kernel_rfl, ?_⟩) hHeld ?_
    rotate_left
    · intro w hSw; have k0 := hSw.1.cells; have k1 := hSw.2.1.cells; go_simp; try with_reducible rfl
    simp only [Act.put, List.setIfInBounds_toArray, List.set_cons_zero, List.set_cons_succ]
    refine wpAnyH_take (i := 2) (oi := { dst := some 12, op := Op.fieldAddr 40 (Operand.tmp 3) 2, type := 0, pos := "item.go:27", after := #[], guard := none }) (v := ?_) rfl (by kernel_rfl) (by kernel_rfl) (by kernel_rfl) (fun _ _ _ h => h) (Or.inl ⟨by kernel_rfl, ?_⟩) hHeld ?_
    rotate_left
    · intro w hSw; go_simp; try with_reducible rfl
    simp only [Act.put, List.setIfInBounds_toArray, List.set_cons_zero, List.set_cons_succ]
    refine wpAnyH_take (i := 3) (oi := { dst := some 13, op := Op.load 3 (Operand.tmp 12), type := 3, pos := "item.go:27", after := #[{ on := 2, ground := Ground.data }], guard := none }) (v := ?_) rfl (by kernel_rfl) (by kernel_rfl) (by kernel_rfl) (fun _ _ _ h => h) (Or.inl ⟨by kernel_rfl, ?_⟩) hHeld ?_
    rotate_left
    · intro w hSw; have k0 := hSw.1.cells; have k1 := hSw.2.1.cells; go_simp; try with_reducible rfl
    simp only [Act.put, List.setIfInBounds_toArray, List.set_cons_zero, List.set_cons_succ]
    refine wpAnyH_take (i := 5) (oi := { dst := some 15, op := Op.fieldAddr 40 (Operand.tmp 2) 1, type := 0, pos := "item.go:27", after := #[], guard := none }) (v := ?_) rfl (by kernel_rfl) (by kernel_rfl) (by kernel_rfl) (fun _ _ _ h => h) (Or.inl ⟨by kernel_rfl, ?_⟩) hHeld ?_
    rotate_left
    · intro w hSw; go_simp; try with_reducible rfl
    simp only [Act.put, List.setIfInBounds_toArray, List.set_cons_zero, List.set_cons_succ]
    refine wpAnyH_take (i := 6) (oi := { dst := some 16, op := Op.load 3 (Operand.tmp 15), type := 3, pos := "item.go:27", after := #[{ on := 5, ground := Ground.data }], guard := none }) (v := ?_) rfl (by kernel_rfl) (by kernel_rfl) (by kernel_rfl) (fun _ _ _ h => h) (Or.inl ⟨by kernel_rfl, ?_⟩) hHeld ?_
    rotate_left
    · intro w hSw; have k0 := hSw.1.cells; have k1 := hSw.2.1.cells; go_simp; try with_reducible rfl
    simp only [Act.put, List.setIfInBounds_toArray, List.set_cons_zero, List.set_cons_succ]
    refine wpAnyH_take (i := 7) (oi := { dst := some 17, op := Op.fieldAddr 40 (Operand.tmp 3) 1, type := 0, pos := "item.go:27", after := #[], guard := none }) (v := ?_) rfl (by kernel_rfl) (by kernel_rfl) (by kernel_rfl) (fun _ _ _ h => h) (Or.inl ⟨by kernel_rfl, ?_⟩) hHeld ?_
    rotate_left
    · intro w hSw; go_simp; try with_reducible rfl
    simp only [Act.put, List.setIfInBounds_toArray, List.set_cons_zero, List.set_cons_succ]
    refine wpAnyH_take (i := 8) (oi := { dst := some 18, op := Op.load 3 (Operand.tmp 17), type := 3, pos := "item.go:27", after := #[{ on := 7, ground := Ground.data }], guard := none }) (v := ?_) rfl (by kernel_rfl) (by kernel_rfl) (by kernel_rfl) (fun _ _ _ h => h) (Or.inl ⟨by kernel_rfl, ?_⟩) hHeld ?_
    rotate_left
    · intro w hSw; have k0 := hSw.1.cells; have k1 := hSw.2.1.cells; go_simp; try with_reducible rfl
    simp only [Act.put, List.setIfInBounds_toArray, List.set_cons_zero, List.set_cons_succ]
    refine wpAnyH_take (i := 10) (oi := { dst := some 20, op := Op.load 40 (Operand.tmp 2), type := 40, pos := "item.go:27", after := #[], guard := none }) (v := .agg (It.cells a.bare)) rfl (by kernel_rfl) (by kernel_rfl) (by kernel_rfl) (fun _ _ _ h => h) (yields_item (t := 2) a.bare w.heap.size (by kernel_rfl) rfl (fun w h => h.1)) hHeld ?_
    simp only [Act.put, List.setIfInBounds_toArray, List.set_cons_zero, List.set_cons_succ]
    refine wpAnyH_take (i := 12) (oi := { dst := some 22, op := Op.load 40 (Operand.tmp 3), type := 40, pos := "item.go:27", after := #[], guard := none }) (v := .agg (It.cells b.bare)) rfl (by kernel_rfl) (by kernel_rfl) (by kernel_rfl) (fun _ _ _ h => h) (yields_item (t := 3) b.bare (w.heap.size + 1) (by kernel_rfl) rfl (fun w h => h.2.1)) hHeld ?_
    simp only [Act.put, List.setIfInBounds_toArray, List.set_cons_zero, List.set_cons_succ]
    refine wpAnyH_ready (rs := [4]) (by kernel_rfl) (by simp) ?_
    refine AllReadyH.cons (o := { dst := some 14, op := Op.call { callee := Callee.value (Operand.func 70), args := #[Operand.tmp 11, Operand.tmp 13], argTypes := #[3, 3] }, type := 3, pos := "item.go:27", after := #[{ on := 1, ground := Ground.data }, { on := 3, ground := Ground.data }], guard := none }) rfl (fun K hK => ?_) AllReadyH.nil
    go_simp
    go_wp2_with (go_at_call 70; refine (cmp_Compare _ _ _).mono ?_; rintro e V ⟨rfl, rfl⟩)
    refine hK.out _ _ hHeld (fun hHeld => ?_)
    clear hK K
    refine wpAnyH_ready (rs := [9]) (by kernel_rfl) (by simp) ?_
    refine AllReadyH.cons (o := { dst := some 19, op := Op.call { callee := Callee.value (Operand.func 70), args := #[Operand.tmp 16, Operand.tmp 18], argTypes := #[3, 3] }, type := 3, pos := "item.go:27", after := #[{ on := 6, ground := Ground.data }, { on := 8, ground := Ground.data }, { on := 4, ground := Ground.chain }], guard := none }) rfl (fun K hK => ?_) AllReadyH.nil
    go_simp
    go_wp2_with (go_at_call 70; refine (cmp_Compare _ _ _).mono ?_; rintro e V ⟨rfl, rfl⟩)
    refine hK.out _ _ hHeld (fun hHeld => ?_)
    clear hK K
    refine wpAnyH_ready (rs := [11]) (by kernel_rfl) (by simp) ?_
    refine AllReadyH.cons (o := { dst := some 21, op := Op.call { callee := Callee.value (Operand.func 71), args := #[Operand.tmp 20], argTypes := #[40] }, type := 3, pos := "item.go:27", after := #[{ on := 10, ground := Ground.data }, { on := 9, ground := Ground.chain }], guard := none }) rfl (fun K hK => ?_) AllReadyH.nil
    go_simp
    go_wp2_with (go_at_call 71; refine (item_gone (a.bare) _).mono ?_; rintro e V ⟨rfl, hb⟩)
    refine hK.out _ _ ⟨hHeld.1.below hb, hHeld.2.1.below hb, hHeld.2.2.trans (hb.mono hHeld.2.2.size)⟩ (fun hHeld => ?_)
    clear hK K
    refine wpAnyH_ready (rs := [13]) (by kernel_rfl) (by simp) ?_
    refine AllReadyH.cons (o := { dst := some 23, op := Op.call { callee := Callee.value (Operand.func 71), args := #[Operand.tmp 22], argTypes := #[40] }, type := 3, pos := "item.go:27", after := #[{ on := 12, ground := Ground.data }, { on := 11, ground := Ground.chain }], guard := none }) rfl (fun K hK => ?_) AllReadyH.nil
    go_simp
    go_wp2_with (go_at_call 71; refine (item_gone (b.bare) _).mono ?_; rintro e V ⟨rfl, hb⟩)
    refine hK.out _ _ ⟨hHeld.1.below hb, hHeld.2.1.below hb, hHeld.2.2.trans (hb.mono hHeld.2.2.size)⟩ (fun hHeld => ?_)
    clear hK K
    refine wpAnyH_ready (rs := [14]) (by kernel_rfl) (by simp) ?_
    refine AllReadyH.cons (o := { dst := some 24, op := Op.call { callee := Callee.value (Operand.func 70), args := #[Operand.tmp 21, Operand.tmp 23], argTypes := #[3, 3] }, type := 3, pos := "item.go:27", after := #[{ on := 11, ground := Ground.data }, { on := 13, ground := Ground.data }, { on := 13, ground := Ground.chain }], guard := none }) rfl (fun K hK => ?_) AllReadyH.nil
    go_simp
    go_wp2_with (go_at_call 70; refine (cmp_Compare _ _ _).mono ?_; rintro e V ⟨rfl, rfl⟩)
    refine hK.out _ _ hHeld (fun hHeld => ?_)
    clear hK K
    refine wpAnyH_ready (rs := [15]) (by kernel_rfl) (by simp) ?_
    refine AllReadyH.cons (o := { dst := some 25, op := Op.buildSlice 22 3 #[(0, Operand.tmp 14), (1, Operand.tmp 19), (2, Operand.tmp 24)], type := 22, pos := "item.go:27", after := #[{ on := 4, ground := Ground.data }, { on := 9, ground := Ground.data }, { on := 14, ground := Ground.data }], guard := none }) rfl (fun K hK => ?_) AllReadyH.nil
    go_simp
    go_wp2
    refine hK.out _ _ ⟨hHeld.1.below (one_more _), hHeld.2.1.below (one_more _), hHeld.2.2.trans ((one_more _).mono hHeld.2.2.size)⟩ (fun hHeld => ?_)
    clear hK K
    refine wpAnyH_ready (rs := [16]) (by kernel_rfl) (by simp) ?_
    refine AllReadyH.cons (o := { dst := some 26, op := Op.call { callee := Callee.value (Operand.func 69), args := #[Operand.tmp 25], argTypes := #[22] }, type := 3, pos := "item.go:27", after := #[{ on := 15, ground := Ground.data }, { on := 14, ground := Ground.chain }], guard := none }) rfl (fun K hK => ?_) AllReadyH.nil
    go_simp
    go_wp2_with (go_at_call 69; refine (cmp_Or _ _ [cmpInt a.version b.version, cmpInt a.value b.value, cmpInt a.goneI b.goneI] _ (Sl.lit _ _ (by simp))).mono ?_; rintro e V ⟨rfl, rfl⟩)
    refine hK.out _ _ hHeld (fun hHeld => ?_)
    clear hK K
    refine wpAnyH_take (i := 17) (oi := { dst := some 4, op := Op.assign (Operand.tmp 26), type := 3, pos := "item.go:27", after := #[{ on := 16, ground := Ground.data }, { on := 16, ground := Ground.chain }, { on := 0, ground := Ground.phase }, { on := 1, ground := Ground.phase }, { on := 2, ground := Ground.phase }, { on := 3, ground := Ground.phase }, { on := 4, ground := Ground.phase }, { on := 5, ground := Ground.phase }, { on := 6, ground := Ground.phase }, { on := 7, ground := Ground.phase }, { on := 8, ground := Ground.phase }, { on := 9, ground := Ground.phase }, { on := 10, ground := Ground.phase }, { on := 11, ground := Ground.phase }, { on := 12, ground := Ground.phase }, { on := 13, ground := Ground.phase }, { on := 14, ground := Ground.phase }, { on := 15, ground := Ground.phase }, { on := 16, ground := Ground.phase }], guard := none }) (v := ?_) rfl (by kernel_rfl) (by kernel_rfl) (by kernel_rfl) (fun _ _ _ h => h) (Or.inl ⟨by kernel_rfl, ?_⟩) hHeld ?_
    rotate_left
    · intro w hSw; go_simp; try with_reducible rfl
    simp only [Act.put, List.setIfInBounds_toArray, List.set_cons_zero, List.set_cons_succ]
    refine wpAnyH_done (by kernel_rfl) ?_ _
    go_wp2
    go_ret
    exact ⟨rfl, hHeld.2.2⟩
def newerI (a b : It) : Bool := decide (0 < cmpI a b)
set_option maxRecDepth 100000 in
set_option maxHeartbeats 1000000 in
theorem item_Newer (a b : It) (w : World) : Calls Try.prog 33 #[a.v, b.v] w fun e w' => e = .returned (.bool (newerI a b)) ∧ Below w.heap.size w w' := by
  unfold It.v newerI
  go_enter Try.func33, Try.ntmps33
  go_upto_region 1 with (fail)
  refine name_world fun W0 hW0 => ?_
  have h0 : IBox W0 w.heap.size a := by rw [← hW0]; exact (IBox.new w a).below (one_more _)
  have h1 : IBox W0 (w.heap.size + 1) b := by rw [← hW0]; have := IBox.new (w.alloc (.cells a.cells 40)) b; simpa using this
  have hB : Below w.heap.size w W0 := by rw [← hW0]; exact (one_more _).trans ((one_more _).mono (one_more (w := w) _).size)
  clear hW0
  go_wp2_with (first | (refine wpList_load_item (t := 2) a w.heap.size ?hg ?hw ?hx ?_; (case hg => exact h0); (case hw => rfl); (case hx => rfl)) | (refine wpList_load_item (t := 3) b (w.heap.size + 1) ?hg ?hw ?hx ?_; (case hg => exact h1); (case hw => rfl); (case hx => rfl)) | (go_at_call 32; refine (item_Cmp a b _).mono ?_; rintro e V ⟨rfl, hb⟩; have hB2 := hB.trans (hb.mono hB.size)))
  go_ret
  exact ⟨rfl, hB2⟩

def goneOf (x : It) : It := ⟨x.key, 0, if x.version < 1048576 then wrap64 (x.version + 1) else x.version, true⟩
theorem IBox.second (w : World) (o : Obj) (x : It) : IBox ((w.alloc o).alloc (.cells x.cells 40)) (w.heap.size + 1) x := by have := IBox.new (w.alloc o) x; simpa using this
theorem two_more {w : World} (o o' : Obj) : Below w.heap.size w ((w.alloc o).alloc o') := (one_more _).trans ((one_more _).mono (one_more (w := w) _).size)
set_option maxRecDepth 100000 in
set_option maxHeartbeats 1000000 in
theorem item_Gone (x : It) (w : World) : Calls Try.prog 38 #[x.v] w fun e w' => e = .returned (goneOf x).v ∧ Below w.heap.size w w' := by
  unfold It.v It.cells
  go_enter Try.func38, Try.ntmps38
  by_cases hv : x.version < 1048576
  · have hc := Lib.hid (show (⟨x.key, 0, wrap64 (x.version + 1), true⟩ : It) = goneOf x by simp [goneOf, hv])
    go_wp2
    refine bodyPost_ret (results_cell_row rfl _ _ (w.heap.size + 1) 40 (It.cells ⟨x.key, 0, wrap64 (x.version + 1), true⟩) (0, 0) _ rfl (IBox.second w _ ⟨x.key, 0, wrap64 (x.version + 1), true⟩) Try.underlying40 rfl item_size) rfl ?_
    rw [← hc.out]
    exact ⟨rfl, two_more _ _⟩
  · have hc := Lib.hid (show (⟨x.key, 0, x.version, true⟩ : It) = goneOf x by simp [goneOf, hv])
    go_wp2
    refine bodyPost_ret (results_cell_row rfl _ _ (w.heap.size + 1) 40 (It.cells ⟨x.key, 0, x.version, true⟩) (0, 0) _ rfl (IBox.second w _ ⟨x.key, 0, x.version, true⟩) Try.underlying40 rfl item_size) rfl ?_
    rw [← hc.out]
    exact ⟨rfl, two_more _ _⟩
end Go.Proofs.Ytbjgfcempfpfcaa
